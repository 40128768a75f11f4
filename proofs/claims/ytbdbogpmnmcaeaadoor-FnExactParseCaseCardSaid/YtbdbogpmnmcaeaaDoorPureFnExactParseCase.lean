/- The pure statement of the law FnExactParseCase: what the program's function answers is what the reference answers, for all arguments of the kinds of its parameters. -/
import Derived.Test.YtbdbogpmnmcaeaaDoorQFnExactParseCasex10
import Derived.Test.YtbdbogpmnmcaeaaDoorBase
namespace Go.Proofs.YtbdbogpmnmcaeaaDoor.Pure
set_option linter.unusedSimpArgs false
open Go.RowKit Go.Proofs.YtbdbogpmnmcaeaaDoor.PFnExactParseCase Go.Proofs.YtbdbogpmnmcaeaaDoorW.PrintWords Go.Proofs.YtbdbogpmnmcaeaaDoorW.PrintLast Go.Proofs.YtbdbogpmnmcaeaaDoor.Base

/-! num -/
theorem digit_at (d : Nat) (h : d < 10) : (⟨#[48, 49, 50, 51, 52, 53, 54, 55, 56, 57]⟩ : ByteArray).extract d (d + 1) = ⟨#[UInt8.ofNat (48 + d)]⟩ := by
  match d, h with
  | 0, _ => rfl
  | 1, _ => rfl
  | 2, _ => rfl
  | 3, _ => rfl
  | 4, _ => rfl
  | 5, _ => rfl
  | 6, _ => rfl
  | 7, _ => rfl
  | 8, _ => rfl
  | 9, _ => rfl
theorem bytes_app (a b : List UInt8) : (⟨a.toArray⟩ : ByteArray) ++ (⟨b.toArray⟩ : ByteArray) = ⟨(a ++ b).toArray⟩ := by
  apply ByteArray.ext
  simp [ByteArray.data_append]
theorem decDigits_len (u : Nat) : (Lib.decDigits u).length ≤ u + 1 := by
  rw [Lib.decDigits]
  by_cases h : u < 10
  · rw [dif_pos h]; simp
  · rw [dif_neg h]
    have := decDigits_len (u / 10)
    simp only [List.length_append, List.length_singleton]
    omega
 termination_by u
 decreasing_by omega
theorem numN_ev (u : Nat) (hu : u ≤ 1000000000000) : Ev (fun k => spec_l1Num.f k (u : Int)) ⟨(Lib.decDigits u).toArray⟩ := by
  refine ev_succ ?_
  simp only [spec_l1Num.f]
  refine ev_ifn (by omega) ?_
  rw [Lib.decDigits]
  by_cases h : u < 10
  · rw [dif_pos h, w64 (by omega) (by omega)]
    refine ev_ifp (by omega) (ev_ifp (by omega) (ev_ifp (by omega) (ev_ifp (by omega) (ev_now ?_))))
    rw [show ((u : Int) + 1).toNat = u + 1 by omega, Int.toNat_natCast]
    exact digit_at u h
  · rw [dif_neg h]
    refine ev_ifn (by omega) ?_
    have e1 : Int.tdiv (u : Int) 10 = ((u / 10 : Nat) : Int) := rfl
    have e2 : Int.tmod (u : Int) 10 = ((u % 10 : Nat) : Int) := rfl
    have hd : u % 10 < 10 := by omega
    rw [e1, e2, w64 (x := ((u / 10 : Nat) : Int)) (by omega) (by omega), w64 (x := ((u % 10 : Nat) : Int) + 1) (by omega) (by omega)]
    refine ev_bind (numN_ev (u / 10) (by omega)) ?_
    have e3 : ((((u % 10 : Nat) : Int)) + 1).toNat = u % 10 + 1 := by omega
    rw [e3, Int.toNat_natCast, digit_at (u % 10) hd]
    have hl := decDigits_len (u / 10)
    have hs : (⟨(Lib.decDigits (u / 10)).toArray⟩ : ByteArray).size = (Lib.decDigits (u / 10)).length := List.size_toArray
    refine ev_ifp (by omega) (ev_ifp (by omega) (ev_ifp (by omega) (ev_ifp ?_ (ev_now ?_))))
    · have h1 : (⟨#[UInt8.ofNat (48 + u % 10)]⟩ : ByteArray).size = 1 := rfl
      rw [hs, h1]
      omega
    · exact bytes_app _ [UInt8.ofNat (48 + u % 10)]
 termination_by u
 decreasing_by omega
theorem num_ev (n : Int) (h0 : -1000000000000 ≤ n) (h1 : n ≤ 1000000000000) : Ev (fun k => spec_l1Num.f k n) ⟨(Lib.itoa n).toArray⟩ := by
  unfold Lib.itoa
  by_cases c : n < 0
  · rw [if_pos c]
    refine ev_succ ?_
    simp only [spec_l1Num.f]
    refine ev_ifp c ?_
    rw [w64 (by omega) (by omega), show -n = ((n.natAbs : Nat) : Int) by omega]
    refine ev_bind (numN_ev n.natAbs (by omega)) ?_
    have hl := decDigits_len n.natAbs
    have hs : (⟨(Lib.decDigits n.natAbs).toArray⟩ : ByteArray).size = (Lib.decDigits n.natAbs).length := List.size_toArray
    exact ev_ifp (by rw [hs]; omega) (ev_now (bytes_app [45] _))
  · rw [if_neg c]
    have e : n = ((n.toNat : Nat) : Int) := by omega
    have h := numN_ev n.toNat (by omega)
    rw [← e] at h
    exact h

/-! seal0 -/
theorem itoa_len (n : Int) : (Lib.itoa n).length ≤ n.natAbs + 2 := by
  unfold Lib.itoa
  by_cases c : n < 0
  · rw [if_pos c]
    have := decDigits_len n.natAbs
    simp only [List.length_cons]
    omega
  · rw [if_neg c]
    have := decDigits_len n.toNat
    omega

/-! parts -/
/-- The parts of a list between a byte. -/
def parts (c : UInt8) : List UInt8 → List (List UInt8)
  | [] => [[]]
  | b :: l => if b = c then [] :: parts c l else (match parts c l with
    | [] => [[b]]
    | p :: r => (b :: p) :: r)
theorem parts_ne (c : UInt8) (l : List UInt8) : ∃ p r, parts c l = p :: r := by
  cases l with
  | nil => exact ⟨_, _, rfl⟩
  | cons b l =>
    rw [parts]
    by_cases h : b = c
    · rw [if_pos h]; exact ⟨_, _, rfl⟩
    · rw [if_neg h]
      cases parts c l with
      | nil => exact ⟨_, _, rfl⟩
      | cons p r => exact ⟨_, _, rfl⟩
theorem parts_cons_ne (c b : UInt8) (l p : List UInt8) (r : List (List UInt8)) (h : b ≠ c) (e : parts c l = p :: r) : parts c (b :: l) = (b :: p) :: r := by
  rw [parts, if_neg h, e]
theorem parts_len (c : UInt8) (l : List UInt8) : (parts c l).length ≤ l.length + 1 := by
  induction l with
  | nil => simp [parts]
  | cons b l ih =>
    obtain ⟨p, r, e⟩ := parts_ne c l
    by_cases h : b = c
    · rw [parts, if_pos h]; simp only [List.length_cons]; omega
    · rw [parts_cons_ne c b l p r h e]; rw [e] at ih; simp only [List.length_cons] at ih ⊢; omega
theorem idx_ge (c : UInt8) (l : List UInt8) : -1 ≤ Lib.indexByte l c := Lib.indexByte_ge l c
theorem parts_miss (c : UInt8) (l : List UInt8) (h : Lib.indexByte l c = -1) : parts c l = [l] := by
  induction l with
  | nil => rfl
  | cons b l ih =>
    rw [Lib.indexByte] at h
    by_cases e : b = c
    · subst e; simp at h
    · have e1 : (b == c) = false := beq_eq_false_iff_ne.2 e
      rw [e1, if_neg (by decide)] at h
      have g := idx_ge c l
      by_cases f : Lib.indexByte l c = -1
      · exact parts_cons_ne c b l l [] e (ih f)
      · rw [if_neg (by simpa using f)] at h; omega
theorem parts_hit (c : UInt8) (l : List UInt8) : ∀ j : Nat, Lib.indexByte l c = j → j < l.length ∧ parts c l = l.take j :: parts c (l.drop (j + 1)) := by
  induction l with
  | nil => intro j h; rw [Lib.indexByte] at h; omega
  | cons b l ih =>
    intro j h
    rw [Lib.indexByte] at h
    by_cases e : b = c
    · have e1 : (b == c) = true := beq_iff_eq.2 e
      rw [e1, if_pos rfl] at h
      obtain rfl : j = 0 := by omega
      rw [parts, if_pos e]
      exact ⟨by simp, rfl⟩
    · have e1 : (b == c) = false := beq_eq_false_iff_ne.2 e
      rw [e1, if_neg (by decide)] at h
      have g := idx_ge c l
      by_cases f : Lib.indexByte l c = -1
      · rw [if_pos (by simpa using f)] at h; omega
      · rw [if_neg (by simpa using f)] at h
        obtain ⟨i, rfl⟩ : ∃ i, j = i + 1 := ⟨j - 1, by omega⟩
        obtain ⟨h1, h2⟩ := ih i (by omega)
        refine ⟨by rw [List.length_cons]; omega, ?_⟩
        rw [parts_cons_ne c b l _ _ e h2]
        rfl
/-- Some bytes ahead of the first part. -/
def glue (a : List UInt8) : List (List UInt8) → List (List UInt8)
  | [] => [a]
  | p :: r => (a ++ p) :: r
def mk8 (l : List UInt8) : ByteArray := ⟨l.toArray⟩
theorem glue_nil (c : UInt8) (l : List UInt8) : glue [] (parts c l) = parts c l := by
  obtain ⟨p, r, e⟩ := parts_ne c l
  rw [e]; rfl
theorem extract_mk (s : ByteArray) (a b : Nat) (_ : a ≤ b) : s.extract a b = mk8 ((s.data.toList.drop a).take (b - a)) := by
  apply ByteArray.ext
  apply Array.toList_inj.1
  rw [ByteArray.data_extract, Array.toList_extract]
  simp [mk8, List.extract_eq_take_drop]

/-! hasB -/
/-- Whether a byte stands in a string. -/
def hasB (s : ByteArray) (c : Int) : Bool := s.data.toList.any (fun b => decide ((b.toNat : Int) = c))
theorem bt_get (s : ByteArray) (i : Nat) (h : i < s.data.toList.length) : bt s (i : Int) = ((s.data.toList[i]).toNat : Int) := by
  have h1 : i < s.size := by rw [Array.length_toList] at h; exact h
  unfold bt
  rw [dif_pos (by simpa using h1)]
  simp [ByteArray.getElem_eq_getElem_data]

/-! l1In -/
theorem l1In_eq (a b c : Int) : spec_l1In.f a b c = some (decide (b ≤ a ∧ a ≤ c)) := by
  unfold spec_l1In.f
  by_cases h : a ≥ b
  · rw [if_pos h]; congr 1; rw [decide_eq_decide]; omega
  · rw [if_neg h]; congr 1; symm; rw [decide_eq_false_iff_not]; omega

/-! readNum -/
theorem decFrom_append (l : List UInt8) (b : UInt8) : ∀ acc, Lib.decFrom acc (l ++ [b]) = (Lib.decFrom acc l).bind fun m => (Lib.digitVal b).map fun d => m * 10 + d := by
  induction l with
  | nil =>
    intro acc
    simp only [List.nil_append, Lib.decFrom, Option.bind_some]
    cases Lib.digitVal b <;> rfl
  | cons c l ih =>
    intro acc
    simp only [List.cons_append, Lib.decFrom]
    cases Lib.digitVal c with
    | none => rfl
    | some d => exact ih _
theorem digit_val (d : Nat) (h : d < 10) : Lib.digitVal (UInt8.ofNat (48 + d)) = some d := by
  match d, h with
  | 0, _ => rfl
  | 1, _ => rfl
  | 2, _ => rfl
  | 3, _ => rfl
  | 4, _ => rfl
  | 5, _ => rfl
  | 6, _ => rfl
  | 7, _ => rfl
  | 8, _ => rfl
  | 9, _ => rfl
theorem dec_digits (u : Nat) : Lib.decFrom 0 (Lib.decDigits u) = some u := by
  rw [Lib.decDigits]
  by_cases h : u < 10
  · rw [dif_pos h]
    simp only [Lib.decFrom, digit_val u h]
    simp
  · rw [dif_neg h, decFrom_append, dec_digits (u / 10), Option.bind_some, digit_val (u % 10) (by omega)]
    simp only [Option.map_some]
    congr 1
    omega
 termination_by u
 decreasing_by omega
theorem dec_ne (u : Nat) : ∃ b r, Lib.decDigits u = b :: r ∧ b.toNat ≠ 45 ∧ b.toNat ≠ 43 := by
  have h := dec_digits u
  cases e : Lib.decDigits u with
  | nil =>
    rw [Lib.decDigits] at e
    by_cases z : u < 10
    · rw [dif_pos z] at e; simp at e
    · rw [dif_neg z] at e; simp at e
  | cons b r =>
    refine ⟨b, r, rfl, ?_⟩
    rw [e] at h
    simp only [Lib.decFrom, Lib.digitVal] at h
    by_cases z : 48 ≤ b.toNat ∧ b.toNat ≤ 57
    · omega
    · rw [if_neg z] at h; cases h
theorem dec_short : ∀ (k u : Nat), u < 10 ^ (k + 1) → (Lib.decDigits u).length ≤ k + 1
  | 0, u, h => by
    rw [Lib.decDigits, dif_pos (by simpa using h)]
    simp
  | k + 1, u, h => by
    rw [Lib.decDigits]
    by_cases z : u < 10
    · rw [dif_pos z]; simp
    · rw [dif_neg z, List.length_append, List.length_singleton]
      have := dec_short k (u / 10) (by rw [Nat.pow_succ] at h; omega)
      omega
theorem atoi_itoa (n : Int) : Lib.atoi (Lib.itoa n) = some n := by
  unfold Lib.itoa
  by_cases c : n < 0
  · obtain ⟨b, r, e, _⟩ := dec_ne n.natAbs
    have h := dec_digits n.natAbs
    rw [if_pos c, Lib.atoi, if_pos (by rfl), Lib.decNat, e]
    rw [e] at h
    simp only [List.isEmpty_cons, Bool.false_eq_true, if_false, h, Option.map_some]
    congr 1
    omega
  · obtain ⟨b, r, e, h45, h43⟩ := dec_ne n.toNat
    have h := dec_digits n.toNat
    rw [if_neg c, e, Lib.atoi, if_neg (fun z => h45 (by rw [beq_iff_eq.1 z]; rfl)), if_neg (fun z => h43 (by rw [beq_iff_eq.1 z]; rfl)), Lib.decNat]
    rw [e] at h
    simp only [List.isEmpty_cons, Bool.false_eq_true, if_false, h, Option.map_some]
    congr 1
    omega
theorem itoa_inj {a b : Int} (h : Lib.itoa a = Lib.itoa b) : a = b := by
  have e := atoi_itoa a
  rw [h, atoi_itoa b] at e
  exact (Option.some.inj e).symm
theorem itoa_short (n : Int) (h0 : -999999 ≤ n) (h1 : n ≤ 999999) : (Lib.itoa n).length ≤ 7 := by
  unfold Lib.itoa
  by_cases c : n < 0
  · rw [if_pos c, List.length_cons]
    have := dec_short 5 n.natAbs (by have : (10 : Nat) ^ (5 + 1) = 1000000 := by decide
                                     omega)
    omega
  · rw [if_neg c]
    have := dec_short 5 n.toNat (by have : (10 : Nat) ^ (5 + 1) = 1000000 := by decide
                                    omega)
    omega
/-- What a parse may answer. -/
def Parsed (l : List UInt8) (R : Int × Bool) : Prop :=
  (R = (0, false) ∧ ∀ n : Int, -999999 ≤ n → n ≤ 999999 → Lib.itoa n ≠ l) ∨ (∃ n : Int, -999999 ≤ n ∧ n ≤ 999999 ∧ Lib.itoa n = l ∧ R = (n, true))
theorem Parsed.one {l : List UInt8} {R S : Int × Bool} (h : Parsed l R) (k : Parsed l S) : R = S := by
  rcases h with ⟨rfl, h⟩ | ⟨n, h0, h1, h, rfl⟩
  · rcases k with ⟨rfl, _⟩ | ⟨m, k0, k1, k, rfl⟩
    · rfl
    · exact absurd k (h m k0 k1)
  · rcases k with ⟨rfl, k⟩ | ⟨m, k0, k1, k, rfl⟩
    · exact absurd h (k n h0 h1)
    · rw [itoa_inj (h.trans k.symm)]

/-! implParse -/
theorem impl_parsed (s : ByteArray) : ∃ R, impl_ParseInt.f s = some R ∧ Parsed s.data.toList R := by
  have hz : s.data.toList.length = s.size := Array.length_toList
  unfold impl_ParseInt.f
  by_cases c : 7 < s.size
  · refine ⟨(0, false), if_pos c, .inl ⟨rfl, fun n h0 h1 e => ?_⟩⟩
    have := itoa_short n h0 h1
    rw [e] at this
    omega
  rw [if_neg c]
  have ha := Lib.atoiAll_short s.data.toList (by omega)
  cases e : Lib.atoi s.data.toList with
  | none =>
    rw [ha, e]
    refine ⟨(0, false), rfl, .inl ⟨rfl, fun n h0 h1 z => ?_⟩⟩
    rw [← z, atoi_itoa] at e
    cases e
  | some v =>
    rw [ha, e]
    have hno : ∀ n, Lib.itoa n = s.data.toList → n = v := fun n z => by
      rw [← z, atoi_itoa] at e
      exact Option.some.inj e
    simp only [Lib.NumEnd.ofOption]
    by_cases c1 : v < -999999
    · exact ⟨(0, false), if_pos c1, .inl ⟨rfl, fun n h0 h1 z => by have := hno n z; omega⟩⟩
    rw [if_neg c1]
    by_cases c2 : 999999 < v
    · exact ⟨(0, false), if_pos c2, .inl ⟨rfl, fun n h0 h1 z => by have := hno n z; omega⟩⟩
    rw [if_neg c2]
    by_cases c3 : Lib.itoa v = s.data.toList
    · exact ⟨(v, true), if_pos c3, .inr ⟨v, by omega, by omega, c3, rfl⟩⟩
    · exact ⟨(0, false), if_neg c3, .inl ⟨rfl, fun n h0 h1 z => c3 (by rw [← hno n z]; exact z)⟩⟩

/-! specRead -/
/-- What the reference answers behind its look at the digits. -/
def fin (s t : ByteArray) (m : Nat) : Int × Bool :=
  if t.size < s.size then (if Lib.itoa (-(m : Int)) = s.data.toList then (-(m : Int), true) else (0, false)) else (if Lib.itoa (m : Int) = s.data.toList then ((m : Int), true) else (0, false))
def fins (s t : ByteArray) : Option Nat → Int × Bool
  | some m => fin s t m
  | none => (0, false)
theorem bytes_eq (l : List UInt8) (s : ByteArray) : ((⟨l.toArray⟩ : ByteArray).toList = s.toList) = (l = s.data.toList) := by
  rw [ByteArray.toList_eq, ByteArray.toList_eq]
theorem read_l0 (s t : ByteArray) (ht : t.size ≤ 6) (i : Nat) (hi : i ≤ t.size) (acc : Nat) (ha : acc < 10 ^ i) :
    Ev (fun k => spec_l1Read.l0 k s t (acc : Int) (i : Int)) (fins s t (Lib.decFrom acc (t.data.toList.drop i))) := by
  have hz : t.data.toList.length = t.size := Array.length_toList
  have hp : (10 : Nat) ^ i ≤ 1000000 := by
    have := Nat.pow_le_pow_right (show 0 < 10 by decide) (show i ≤ 6 by omega)
    have e : (10 : Nat) ^ 6 = 1000000 := by decide
    omega
  refine ev_succ ?_
  simp only [spec_l1Read.l0]
  by_cases h : i < t.size
  · have hl : i < t.data.toList.length := by omega
    refine ev_ifp (by omega) (ev_ifp (by omega) ?_)
    rw [List.drop_eq_getElem_cons hl, bt_get t i hl]
    generalize t.data.toList[i] = b
    have hb : b.toNat < 256 := b.toNat_lt
    by_cases c1 : (b.toNat : Int) < 48
    · refine ev_ifp c1 (ev_now ?_)
      simp only [Lib.decFrom, Lib.digitVal]
      rw [if_neg (by omega)]
      rfl
    refine ev_ifn c1 ?_
    by_cases c2 : (b.toNat : Int) > 57
    · refine ev_ifp c2 (ev_now ?_)
      simp only [Lib.decFrom, Lib.digitVal]
      rw [if_neg (by omega)]
      rfl
    refine ev_ifn c2 ?_
    have e1 : ((b.toNat : Int) - 48) % 256 = ((b.toNat - 48 : Nat) : Int) := by omega
    rw [e1, w64 (x := 10 * (acc : Int)) (by omega) (by omega), w64 (x := 10 * (acc : Int) + _) (by omega) (by omega), w64 (x := (i : Int) + 1) (by omega) (by omega)]
    have e2 : 10 * (acc : Int) + ((b.toNat - 48 : Nat) : Int) = ((acc * 10 + (b.toNat - 48) : Nat) : Int) := by omega
    rw [e2]
    refine ev_to (read_l0 s t ht (i + 1) (by omega) (acc * 10 + (b.toNat - 48)) (by rw [Nat.pow_succ]; omega)) ?_
    simp only [Lib.decFrom, Lib.digitVal]
    rw [if_pos (by omega)]
  · rw [List.drop_eq_nil_of_le (by omega)]
    refine ev_ifn (by omega) ?_
    simp only [Lib.decFrom, fins]
    unfold fin
    by_cases d : t.size < s.size
    · rw [if_pos d, w64 (by omega) (by omega)]
      refine ev_ifp (by omega) (ev_bind (num_ev _ (by omega) (by omega)) ?_)
      by_cases g : Lib.itoa (-(acc : Int)) = s.data.toList
      · rw [if_pos g]; exact ev_ifp ((bytes_eq _ s).mpr g) (ev_now rfl)
      · rw [if_neg g]; exact ev_ifn (fun z => g ((bytes_eq _ s).mp z)) (ev_now rfl)
    · rw [if_neg d]
      refine ev_ifn (by omega) (ev_bind (num_ev _ (by omega) (by omega)) ?_)
      by_cases g : Lib.itoa (acc : Int) = s.data.toList
      · rw [if_pos g]; exact ev_ifp ((bytes_eq _ s).mpr g) (ev_now rfl)
      · rw [if_neg g]; exact ev_ifn (fun z => g ((bytes_eq _ s).mp z)) (ev_now rfl)
 termination_by t.size - i

def j1R (s t : ByteArray) : Int × Bool := if 1 ≤ t.size ∧ t.size ≤ 6 then fins s t (Lib.decFrom 0 t.data.toList) else (0, false)
theorem j1_ev (s t : ByteArray) (h : t.size ≤ 2000000) : Ev (fun k => spec_l1Read.j1 k s t) (j1R s t) := by
  refine ev_succ ?_
  simp only [spec_l1Read.j1]
  rw [l1In_eq]
  simp only [Option.bind_some]
  unfold j1R
  by_cases c : 1 ≤ t.size ∧ t.size ≤ 6
  · rw [if_pos c]
    refine ev_ifp (decide_eq_true (by omega)) ?_
    exact read_l0 s t c.2 0 (by omega) 0 (by decide)
  · rw [if_neg c]
    refine ev_ifn ?_ (ev_now rfl)
    rw [decide_eq_true_iff]
    omega
theorem six (l : List UInt8) (m : Nat) (hl : l.length ≤ 6) (h : Lib.decFrom 0 l = some m) : m ≤ 999999 := by
  have h1 := Lib.decFrom_lt l 0 m h
  have hp : 10 ^ l.length ≤ 10 ^ 6 := Nat.pow_le_pow_right (by decide) hl
  have e : (10 : Nat) ^ 6 = 1000000 := by decide
  omega
theorem dec_six (u : Nat) (h : u ≤ 999999) : (Lib.decDigits u).length ≤ 6 := by
  have e : (10 : Nat) ^ (5 + 1) = 1000000 := by decide
  exact dec_short 5 u (by omega)
theorem plain_parsed (s : ByteArray) (hno : ∀ r, s.data.toList = 45 :: r → r = []) : Parsed s.data.toList (j1R s s) := by
  have hz : s.data.toList.length = s.size := Array.length_toList
  have hp : ∀ n : Int, -999999 ≤ n → n ≤ 999999 → Lib.itoa n = s.data.toList → (1 ≤ s.size ∧ s.size ≤ 6) ∧ Lib.decFrom 0 s.data.toList = some n.toNat ∧ 0 ≤ n := by
    intro n h0 h1 e
    unfold Lib.itoa at e
    by_cases c : n < 0
    · rw [if_pos c] at e
      obtain ⟨b, r, e2, _⟩ := dec_ne n.natAbs
      have := hno _ e.symm
      rw [e2] at this
      cases this
    · rw [if_neg c] at e
      obtain ⟨b, r, e2, _⟩ := dec_ne n.toNat
      have h6 := dec_six n.toNat (by omega)
      have hd := dec_digits n.toNat
      have h1 : 1 ≤ (Lib.decDigits n.toNat).length := by rw [e2]; simp
      rw [e] at h6 hd h1
      exact ⟨by omega, hd, by omega⟩
  unfold j1R
  by_cases c : 1 ≤ s.size ∧ s.size ≤ 6
  · rw [if_pos c]
    cases e : Lib.decFrom 0 s.data.toList with
    | none =>
      refine .inl ⟨rfl, fun n h0 h1 z => ?_⟩
      have := (hp n h0 h1 z).2.1
      rw [e] at this
      cases this
    | some m =>
      have hm := six _ m (by omega) e
      simp only [fins]
      unfold fin
      rw [if_neg (by omega)]
      by_cases g : Lib.itoa (m : Int) = s.data.toList
      · rw [if_pos g]
        exact .inr ⟨m, by omega, by omega, g, rfl⟩
      · rw [if_neg g]
        refine .inl ⟨rfl, fun n h0 h1 z => g ?_⟩
        obtain ⟨_, h2, h3⟩ := hp n h0 h1 z
        rw [e] at h2
        have := Option.some.inj h2
        rw [show (m : Int) = n by omega]
        exact z
  · rw [if_neg c]
    exact .inl ⟨rfl, fun n h0 h1 z => c (hp n h0 h1 z).1⟩
theorem minus_parsed (s t : ByteArray) (r : List UInt8) (e0 : s.data.toList = 45 :: r) (et : t.data.toList = r) : Parsed s.data.toList (j1R s t) := by
  have hz : s.data.toList.length = s.size := Array.length_toList
  have hzt : t.data.toList.length = t.size := Array.length_toList
  have hlt : t.size < s.size := by rw [← hz, ← hzt, e0, et]; simp
  have hp : ∀ n : Int, -999999 ≤ n → n ≤ 999999 → Lib.itoa n = s.data.toList → (1 ≤ t.size ∧ t.size ≤ 6) ∧ Lib.decFrom 0 t.data.toList = some n.natAbs ∧ n < 0 := by
    intro n h0 h1 e
    unfold Lib.itoa at e
    by_cases c : n < 0
    · rw [if_pos c, e0] at e
      injection e with _ e
      obtain ⟨b, r2, e2, _⟩ := dec_ne n.natAbs
      have h6 := dec_six n.natAbs (by omega)
      have hd := dec_digits n.natAbs
      have h1 : 1 ≤ (Lib.decDigits n.natAbs).length := by rw [e2]; simp
      rw [e, ← et] at h6 hd h1
      exact ⟨by omega, hd, c⟩
    · rw [if_neg c, e0] at e
      obtain ⟨b, r2, e2, h45, _⟩ := dec_ne n.toNat
      rw [e2] at e
      injection e with e _
      exact absurd (by rw [e]; rfl) h45
  unfold j1R
  by_cases c : 1 ≤ t.size ∧ t.size ≤ 6
  · rw [if_pos c]
    cases e : Lib.decFrom 0 t.data.toList with
    | none =>
      refine .inl ⟨rfl, fun n h0 h1 z => ?_⟩
      have := (hp n h0 h1 z).2.1
      rw [e] at this
      cases this
    | some m =>
      have hm := six _ m (by omega) e
      simp only [fins]
      unfold fin
      rw [if_pos hlt]
      by_cases g : Lib.itoa (-(m : Int)) = s.data.toList
      · rw [if_pos g]
        exact .inr ⟨-(m : Int), by omega, by omega, g, rfl⟩
      · rw [if_neg g]
        refine .inl ⟨rfl, fun n h0 h1 z => g ?_⟩
        obtain ⟨_, h2, h3⟩ := hp n h0 h1 z
        rw [e] at h2
        have := Option.some.inj h2
        rw [show -(m : Int) = n by omega]
        exact z
  · rw [if_neg c]
    exact .inl ⟨rfl, fun n h0 h1 z => c (hp n h0 h1 z).1⟩
theorem read_parsed (s : ByteArray) (hs : s.size ≤ 2000000) : ∃ R, Ev (fun k => spec_l1Read.f k s) R ∧ Parsed s.data.toList R := by
  have hz : s.data.toList.length = s.size := Array.length_toList
  unfold spec_l1Read.f
  by_cases c : (s.size : Int) > 1
  · have hl : 0 < s.data.toList.length := by omega
    have hb := bt_get s 0 hl
    obtain ⟨b, r, e⟩ : ∃ b r, s.data.toList = b :: r := by
      cases e : s.data.toList with
      | nil => rw [e] at hl; simp at hl
      | cons b r => exact ⟨b, r, rfl⟩
    have hb2 : bt s 0 = (b.toNat : Int) := by
      have : bt s ((0 : Nat) : Int) = ((s.data.toList[0]).toNat : Int) := hb
      simp only [e, List.getElem_cons_zero] at this
      exact this
    by_cases d : b.toNat = 45
    · have e45 : b = 45 := UInt8.toNat_inj.1 d
      subst e45
      have et : (s.extract 1 s.size).data.toList = r := by rw [Lib.extract_to_end, e]; rfl
      have hts : (s.extract 1 s.size).size ≤ 2000000 := by
        have h3 : (s.extract 1 s.size).data.toList.length = (s.extract 1 s.size).size := Array.length_toList
        have h4 : (s.data.toList).length = r.length + 1 := by rw [e]; rfl
        rw [← h3, et]
        omega
      refine ⟨j1R s (s.extract 1 s.size), ev_ifp c (ev_ifp (by omega) (ev_succ ?_)), minus_parsed s _ r e et⟩
      simp only [spec_l1Read.j0]
      exact ev_ifp (by rw [hb2]; rfl) (ev_ifp (by omega) (j1_ev s _ hts))
    · refine ⟨j1R s s, ev_ifp c (ev_ifp (by omega) (ev_succ ?_)), plain_parsed s (fun r2 e2 => ?_)⟩
      · simp only [spec_l1Read.j0]
        exact ev_ifn (by rw [hb2, beq_iff_eq]; omega) (j1_ev s s hs)
      · rw [e] at e2
        injection e2 with e3 _
        exact absurd (by rw [e3]; rfl) d
  · refine ⟨j1R s s, ev_ifn c (ev_succ ?_), plain_parsed s (fun r2 e2 => ?_)⟩
    · simp only [spec_l1Read.j0]
      exact ev_ifn (by simp) (j1_ev s s hs)
    · cases r2 with
      | nil => rfl
      | cons a r3 =>
        have := congrArg List.length e2
        simp only [List.length_cons] at this
        omega

/-! l1Split -/
theorem split_l0 (s : ByteArray) (hs : s.size ≤ 2000000) (c : UInt8) (fr i : Nat) (out : List ByteArray) (h1 : fr ≤ i) (h2 : i ≤ s.size) (ho : out.length ≤ i) :
    Ev (fun k => spec_l1Split.l0 k s (c.toNat : Int) out (fr : Int) (i : Int)) (out ++ (glue ((s.data.toList.drop fr).take (i - fr)) (parts c (s.data.toList.drop i))).map mk8) := by
  have hz : s.data.toList.length = s.size := Array.length_toList
  refine ev_succ ?_
  simp only [spec_l1Split.l0]
  by_cases h : i < s.size
  · have hl : i < s.data.toList.length := by omega
    refine ev_ifp (by omega) (ev_ifp (by omega) ?_)
    rw [w64 (x := (i : Int) + 1) (by omega) (by omega), List.drop_eq_getElem_cons hl]
    have hb := bt_get s i hl
    rw [hb]
    generalize hx : s.data.toList[i] = x
    by_cases e : x = c
    · refine ev_ifp (by rw [e]) (ev_ifp (by omega) (ev_ifp (by omega) (ev_ifp (by omega) (ev_ifp (by omega) ?_))))
      rw [parts, if_pos e, Int.toNat_natCast, Int.toNat_natCast]
      refine ev_to (split_l0 s hs c (i + 1) (i + 1) _ (by omega) (by omega) (by simp only [List.length_append, List.length_singleton]; omega)) ?_
      rw [Nat.sub_self, List.take_zero, glue_nil, extract_mk s fr i h1]
      simp [glue]
    · refine ev_ifn (fun z => e (UInt8.toNat_inj.1 (by omega))) ?_
      refine ev_to (split_l0 s hs c fr (i + 1) out (by omega) (by omega) (by omega)) ?_
      obtain ⟨p, r, er⟩ := parts_ne c (s.data.toList.drop (i + 1))
      rw [parts_cons_ne c x _ p r e er, er]
      have e3 : (s.data.toList.drop fr).take (i + 1 - fr) = (s.data.toList.drop fr).take (i - fr) ++ [x] := by
        rw [show i + 1 - fr = (i - fr) + 1 by omega, List.take_add_one]
        congr 1
        rw [List.getElem?_drop, show fr + (i - fr) = i by omega, List.getElem?_eq_getElem hl, hx]
        rfl
      rw [glue, glue, e3, List.append_assoc]
      rfl
  · have e : i = s.size := by omega
    refine ev_ifn (by omega) (ev_ifp (by omega) (ev_ifp (by omega) (ev_ifp (by omega) (ev_now ?_))))
    rw [List.drop_eq_nil_of_le (show s.data.toList.length ≤ i by omega), parts, glue, Int.toNat_natCast, extract_mk s fr s.size (by omega), e]
    simp
 termination_by s.size - i
theorem l1Split_ev (s : ByteArray) (hs : s.size ≤ 2000000) (c : UInt8) : Ev (fun k => spec_l1Split.f k s (c.toNat : Int)) ((parts c s.data.toList).map mk8) := by
  refine ev_to (split_l0 s hs c 0 0 [] (by omega) (by omega) (by simp)) ?_
  rw [List.nil_append, List.drop_zero, Nat.sub_self, List.take_zero, glue_nil]

/-! splitB -/
theorem mk8_data (s : ByteArray) : mk8 s.data.toList = s := by
  apply ByteArray.ext
  simp [mk8]
theorem splitK_parts (c : UInt8) : ∀ (n : Nat) (l : List UInt8), l.length ≤ n → Lib.splitK [c] 0 (Lib.count l [c]) l = parts c l := by
  intro n
  induction n with
  | zero =>
    intro l h
    obtain rfl : l = [] := List.length_eq_zero_iff.1 (by omega)
    rw [Lib.count_miss (by rw [Lib.index_one]; rfl)]
    rfl
  | succ n ih =>
    intro l h
    have g := idx_ge c l
    by_cases m : Lib.indexByte l c = -1
    · rw [Lib.count_miss (by rw [Lib.index_one]; exact m), parts_miss c l m]
      rfl
    · obtain ⟨hj, e⟩ := parts_hit c l (Lib.indexByte l c).toNat (by omega)
      have hi : Lib.index l [c] = ((Lib.indexByte l c).toNat : Nat) := by rw [Lib.index_one]; omega
      rw [Lib.count_hit (by simp) hi, Nat.add_comm, Lib.splitK, if_neg (by rw [hi, beq_iff_eq]; omega), hi, e]
      simp only [Int.toNat_natCast, List.length_singleton, Nat.add_zero]
      rw [ih _ (by rw [List.length_drop]; omega)]
theorem splitB_parts (s : ByteArray) (c : UInt8) : Lib.splitB (⟨#[c]⟩ : ByteArray) 0 (Lib.countB s (⟨#[c]⟩ : ByteArray)) s = (parts c s.data.toList).map mk8 := by
  have h := Lib.splitB_data (⟨#[c]⟩ : ByteArray) 0 (Lib.countB s (⟨#[c]⟩ : ByteArray)) s
  have h2 : Lib.splitK [c] 0 (Lib.countB s (⟨#[c]⟩ : ByteArray)) s.data.toList = parts c s.data.toList := splitK_parts c _ _ (Nat.le_refl _)
  rw [h2] at h
  rw [← h, List.map_map]
  symm
  exact (List.map_congr_left (fun x _ => mk8_data x)).trans (List.map_id _)
theorem count_le (l : List UInt8) (c : UInt8) : Lib.count l [c] ≤ l.length := by
  have e := congrArg List.length (splitK_parts c l.length l (Nat.le_refl _))
  have h := Lib.countB_le (⟨#[c]⟩ : ByteArray) (Nat.le_refl 1) (mk8 l).size (mk8 l) (Nat.le_refl _)
  have hz : (mk8 l).size = l.length := List.size_toArray
  rw [hz] at h
  exact h

/-! pcword -/
theorem parts_mem (c : UInt8) (l : List UInt8) : ∀ p ∈ parts c l, p.length ≤ l.length := by
  induction l with
  | nil => intro p h; rw [parts] at h; simp only [List.mem_cons, List.not_mem_nil, or_false] at h; subst h; exact Nat.le_refl _
  | cons b l ih =>
    intro p h
    by_cases e : b = c
    · rw [parts, if_pos e] at h
      rcases List.mem_cons.1 h with h | h
      · subst h; exact Nat.zero_le _
      · have := ih p h; simp only [List.length_cons]; omega
    · obtain ⟨p1, r1, e1⟩ := parts_ne c l
      rw [parts_cons_ne c b l p1 r1 e e1] at h
      rcases List.mem_cons.1 h with h | h
      · subst h
        have := ih p1 (by rw [e1]; exact List.mem_cons_self)
        simp only [List.length_cons]; omega
      · have := ih p (by rw [e1]; exact List.mem_cons_of_mem _ h)
        simp only [List.length_cons]; omega
theorem split_some (s : ByteArray) (c : UInt8) (h : s.size ≤ 2000000) : strings_Split.f s (⟨#[c]⟩ : ByteArray) = some ((parts c s.data.toList).map mk8) := by
  have hz : s.data.toList.length = s.size := Array.length_toList
  have h3 : Lib.countB s (⟨#[c]⟩ : ByteArray) ≤ s.data.toList.length := count_le _ _
  have h1c : 1 ≤ (⟨#[c]⟩ : ByteArray).size := Nat.le_refl 1
  unfold strings_Split.f
  rw [if_pos ⟨by omega, h1c, by omega⟩, splitB_parts]
/-- What a number's text says. -/
def pz (s : ByteArray) : Int × Bool := (impl_ParseInt.f s).getD (0, false)
theorem pz_i (s : ByteArray) : impl_ParseInt.f s = some (pz s) := by
  obtain ⟨R, h, _⟩ := impl_parsed s
  unfold pz
  rw [h]
  rfl
theorem pz_s (s : ByteArray) (h : s.size ≤ 2000000) : Ev (fun k => spec_l1Read.f k s) (pz s) := by
  obtain ⟨R, h1, p1⟩ := impl_parsed s
  obtain ⟨S, h2, p2⟩ := read_parsed s h
  have e : pz s = S := by unfold pz; rw [h1]; exact p1.one p2
  rw [e]
  exact h2
def readAll : List ByteArray → Option (List Int)
  | [] => some []
  | p :: r => if (pz p).2 = true then (readAll r).map ((pz p).1 :: ·) else none
theorem readAll_len : ∀ (ps : List ByteArray) (l : List Int), readAll ps = some l → l.length = ps.length
  | [], l, h => by simp only [readAll, Option.some.injEq] at h; subst h; rfl
  | p :: r, l, h => by
    simp only [readAll] at h
    split at h
    · obtain ⟨x, hx, rfl⟩ := Option.map_eq_some_iff.1 h
      simp only [List.length_cons, readAll_len r x hx]
    · cases h
def rnR (out : List Int) : Option (List Int) → List Int × Bool
  | some l => (out ++ l, true)
  | none => ([], false)
theorem rn_l0 (ps : List ByteArray) (hl : ps.length ≤ 3000000) (i : Nat) (hi : i ≤ ps.length) (out : List Int) (ho : out.length = i) :
    Ev (fun k => impl_readNumbers.l0 k out ps (ps.length : Int) (i : Int)) (rnR out (readAll (ps.drop i))) := by
  refine ev_succ ?_
  simp only [impl_readNumbers.l0]
  by_cases h : i < ps.length
  · have e : rdOf ByteArray.empty ps (i : Int) = ps[i] := by simp [rdOf, List.getD_eq_getElem?_getD, h]
    refine ev_ifp (by omega) (ev_ifp (by omega) (ev_ifp (by omega) ?_))
    rw [e, pz_i, List.drop_eq_getElem_cons h]
    simp only [Option.bind_some, readAll]
    by_cases b : (pz ps[i]).2 = true
    · rw [if_pos b]
      refine ev_ifp b (ev_ifp (by omega) ?_)
      rw [w64 (x := (i : Int) + 1) (by omega) (by omega)]
      refine ev_to (rn_l0 ps hl (i + 1) (by omega) (out ++ [(pz ps[i]).1]) (by simp [ho])) ?_
      cases readAll (ps.drop (i + 1)) with
      | none => rfl
      | some l => simp [rnR]
    · rw [if_neg b]
      exact ev_ifn b (ev_now rfl)
  · have hi2 : i = ps.length := by omega
    refine ev_ifn (by omega) (ev_now ?_)
    rw [List.drop_eq_nil_of_le (by omega)]
    simp [readAll, rnR]
 termination_by ps.length - i
/-- A period's four numbers, if the word is one. -/
def wordR (w : ByteArray) : Option (List Int) := if (parts 47 w.data.toList).length = 4 then readAll ((parts 47 w.data.toList).map mk8) else none
def l2R : Option (List Int) → List Int × Bool
  | some l => (l, true)
  | none => ([0, 0, 0, 0], false)
theorem l2_ev (w : ByteArray) (hs : w.size ≤ 2000000) : Ev (fun k => spec_l2Read.f k w) (l2R (wordR w)) := by
  have hz : w.data.toList.length = w.size := Array.length_toList
  unfold spec_l2Read.f
  refine ev_bind (l1Split_ev w hs 47) ?_
  unfold wordR
  have hm := parts_mem 47 w.data.toList
  by_cases c : (parts 47 w.data.toList).length = 4
  · rw [if_pos c]
    refine ev_ifp (by rw [List.length_map]; exact c) ?_
    generalize parts 47 w.data.toList = P at c hm
    match P, c with
    | [p0, p1, p2, p3], _ =>
      have hsz : ∀ p : List UInt8, p.length ≤ w.data.toList.length → (mk8 p).size ≤ 2000000 := fun p hp => by
        have : (mk8 p).size = p.length := List.size_toArray
        omega
      have h0 := pz_s (mk8 p0) (hsz p0 (hm p0 (by simp)))
      have h1 := pz_s (mk8 p1) (hsz p1 (hm p1 (by simp)))
      have h2 := pz_s (mk8 p2) (hsz p2 (hm p2 (by simp)))
      have h3 := pz_s (mk8 p3) (hsz p3 (hm p3 (by simp)))
      simp only [List.map_cons, List.map_nil, spec_l2Read.l, readAll]
      refine ev_bind h0 ?_
      by_cases b0 : (pz (mk8 p0)).2 = true
      rotate_left
      · rw [if_neg b0]; exact ev_ifn b0 (ev_now rfl)
      rw [if_pos b0]
      refine ev_ifp b0 (ev_bind h1 ?_)
      by_cases b1 : (pz (mk8 p1)).2 = true
      rotate_left
      · rw [if_neg b1]; exact ev_ifn b1 (ev_now rfl)
      rw [if_pos b1]
      refine ev_ifp b1 (ev_bind h2 ?_)
      by_cases b2 : (pz (mk8 p2)).2 = true
      rotate_left
      · rw [if_neg b2]; exact ev_ifn b2 (ev_now rfl)
      rw [if_pos b2]
      refine ev_ifp b2 (ev_bind h3 ?_)
      by_cases b3 : (pz (mk8 p3)).2 = true
      rotate_left
      · exact ev_to (r := (([0, 0, 0, 0] : List Int), false)) (ev_ifn b3 (ev_now rfl)) (by rw [if_neg b3]; rfl)
      exact ev_to (ev_ifp b3 (ev_now rfl)) (by rw [if_pos b3]; rfl)
  · rw [if_neg c]
    exact ev_ifn (by rw [List.length_map]; exact c) (ev_now rfl)
theorem rn_ev (w : ByteArray) (hs : w.size ≤ 2000000) : ∃ r, Ev (fun k => impl_readNumbers.f k w (⟨#[47]⟩ : ByteArray)) r ∧ ((wordR w = none ∧ (r.2 = true → ¬ r.1.length = 4)) ∨ ∃ l, wordR w = some l ∧ r = (l, true) ∧ l.length = 4) := by
  have hz : w.data.toList.length = w.size := Array.length_toList
  have hl := parts_len 47 w.data.toList
  refine ⟨rnR [] (readAll ((parts 47 w.data.toList).map mk8)), ?_, ?_⟩
  · unfold impl_readNumbers.f
    rw [split_some w 47 hs]
    simp only [Option.bind_some]
    exact rn_l0 _ (by rw [List.length_map]; omega) 0 (by omega) [] rfl
  · unfold wordR
    by_cases c : (parts 47 w.data.toList).length = 4
    · rw [if_pos c]
      cases e : readAll ((parts 47 w.data.toList).map mk8) with
      | none => exact .inl ⟨rfl, fun h => by simp [rnR] at h⟩
      | some l => exact .inr ⟨l, rfl, by simp [rnR], by rw [readAll_len _ _ e, List.length_map]; exact c⟩
    · rw [if_neg c]
      refine .inl ⟨rfl, ?_⟩
      cases e : readAll ((parts 47 w.data.toList).map mk8) with
      | none => intro h; simp [rnR] at h
      | some l => intro _ h; have := readAll_len _ _ e; rw [List.length_map] at this; simp only [rnR, List.nil_append] at h; omega

/-! OkCase -/
/-- A valid case: needs, setups, units, holds. -/
def OkCase (n s u h : List Int) : Prop := (n.length ≤ 8 ∧ s.length = n.length ∧ u.length = n.length ∧ h.length = n.length) ∧ (∀ x ∈ n, 0 ≤ x ∧ x ≤ 20) ∧ (∀ x ∈ s, 0 ≤ x ∧ x ≤ 99) ∧ (∀ x ∈ u, 0 ≤ x ∧ x ≤ 9) ∧ (∀ x ∈ h, 0 ≤ x ∧ x ≤ 9)
instance (n s u h : List Int) : Decidable (OkCase n s u h) := by unfold OkCase; infer_instance

/-! within -/
theorem within_eq (a b c : Int) : impl_within.f a b c = some (decide (b ≤ a ∧ a ≤ c)) := by
  unfold impl_within.f
  by_cases h : a ≥ b
  · rw [if_pos h]; congr 1; rw [decide_eq_decide]; omega
  · rw [if_neg h]; congr 1; symm; rw [decide_eq_false_iff_not]; omega

/-! allWithin -/
theorem allWithin_l0 (l : List Int) (lo hi : Int) (i : Nat) (h1 : i ≤ l.length) (hl : l.length ≤ 2000000) :
    Ev (fun k => impl_allWithin.l0 k lo hi l (l.length : Int) (i : Int)) (decide (∀ x ∈ l.drop i, lo ≤ x ∧ x ≤ hi)) := by
  refine ev_succ ?_
  by_cases h : i < l.length
  · simp (disch := omega) only [impl_allWithin.l0, if_pos, within_eq, Option.bind_some, w64]
    rw [drop_rd l i h]
    by_cases c : lo ≤ rd l i ∧ rd l i ≤ hi
    · refine ev_ifp (by simpa using c) ?_
      refine ev_to (allWithin_l0 l lo hi (i + 1) (by omega) hl) ?_
      rw [decide_eq_decide]; simp [c]
    · refine ev_ifn (by simpa using c) (ev_now ?_)
      symm; rw [decide_eq_false_iff_not]; simp [c]
  · simp (disch := omega) only [impl_allWithin.l0, if_neg]
    exact ev_now (by simp [List.drop_eq_nil_of_le (show l.length ≤ i by omega)])
 termination_by l.length - i
theorem allWithin_ev (l : List Int) (lo hi : Int) (hl : l.length ≤ 2000000) : Ev (fun k => impl_allWithin.f k l lo hi) (decide (∀ x ∈ l, lo ≤ x ∧ x ≤ hi)) := by
  have h := allWithin_l0 l lo hi 0 (by omega) hl
  simpa [impl_allWithin.f] using h

/-! IsCase -/
theorem IsCase_ev (n s u h : List Int) (hn : n.length ≤ 2000000) (hs : s.length ≤ 2000000) (hu : u.length ≤ 2000000) (hh : h.length ≤ 2000000) : Ev (fun k => impl_IsCase.f k n s u h) (decide (OkCase n s u h)) := by
  unfold impl_IsCase.f
  by_cases c : n.length ≤ 8 ∧ s.length = n.length ∧ u.length = n.length ∧ h.length = n.length
  · refine ev_ifp (by omega) (ev_ifp (by omega) (ev_ifp (by omega) (ev_ifp (by omega) (ev_bind (allWithin_ev n 0 20 hn) ?_))))
    by_cases c1 : ∀ x ∈ n, 0 ≤ x ∧ x ≤ 20
    · refine ev_ifp (by simpa using c1) (ev_bind (allWithin_ev s 0 99 hs) ?_)
      by_cases c2 : ∀ x ∈ s, 0 ≤ x ∧ x ≤ 99
      · refine ev_ifp (by simpa using c2) (ev_bind (allWithin_ev u 0 9 hu) ?_)
        by_cases c3 : ∀ x ∈ u, 0 ≤ x ∧ x ≤ 9
        · refine ev_ifp (by simpa using c3) (ev_bind (allWithin_ev h 0 9 hh) (ev_now ?_))
          rw [decide_eq_decide]
          exact ⟨fun z => ⟨c, c1, c2, c3, z⟩, fun z => z.2.2.2.2⟩
        · refine ev_ifn (by simpa using c3) (ev_now ?_)
          symm; rw [decide_eq_false_iff_not]; exact fun z => c3 z.2.2.2.1
      · refine ev_ifn (by simpa using c2) (ev_now ?_)
        symm; rw [decide_eq_false_iff_not]; exact fun z => c2 z.2.2.1
    · refine ev_ifn (by simpa using c1) (ev_now ?_)
      symm; rw [decide_eq_false_iff_not]; exact fun z => c1 z.2.1
  · have hf : decide (OkCase n s u h) = false := by rw [decide_eq_false_iff_not]; exact fun z => c z.1
    rw [hf]
    by_cases a : (n.length : Int) ≤ 8
    · refine ev_ifp a ?_
      by_cases b : (s.length : Int) = n.length
      · refine ev_ifp b ?_
        by_cases d : (u.length : Int) = n.length
        · exact ev_ifp d (ev_ifn (fun e => c ⟨by omega, by omega, by omega, by omega⟩) (ev_now rfl))
        · exact ev_ifn d (ev_now rfl)
      · exact ev_ifn b (ev_now rfl)
    · exact ev_ifn a (ev_now rfl)

/-! l2Row -/
theorem l2Row_l0 (l : List Int) (n hi : Int) (i : Nat) (h1 : i ≤ l.length) (hl : l.length ≤ 2000000) :
    Ev (fun k => spec_l2Row.l0 k l n hi (i : Int)) (decide ((∀ x ∈ l.drop i, 0 ≤ x ∧ x ≤ hi) ∧ (l.length : Int) = n)) := by
  refine ev_succ ?_
  by_cases h : i < l.length
  · simp (disch := omega) only [spec_l2Row.l0, if_pos, l1In_eq, Option.bind_some, w64]
    rw [drop_rd l i h]
    by_cases c : 0 ≤ rd l i ∧ rd l i ≤ hi
    · refine ev_ifp (by simpa using c) ?_
      refine ev_to (l2Row_l0 l n hi (i + 1) (by omega) hl) ?_
      rw [decide_eq_decide]; simp [c]
    · refine ev_ifn (by simpa using c) (ev_now ?_)
      symm; rw [decide_eq_false_iff_not]; simp [c]
  · simp (disch := omega) only [spec_l2Row.l0, if_neg]
    exact ev_now (by
      rw [List.drop_eq_nil_of_le (show l.length ≤ i by omega)]
      rw [Bool.eq_iff_iff]; simp)
 termination_by l.length - i
theorem l2Row_ev (l : List Int) (n hi : Int) (hl : l.length ≤ 2000000) : Ev (fun k => spec_l2Row.f k l n hi) (decide ((∀ x ∈ l, 0 ≤ x ∧ x ≤ hi) ∧ (l.length : Int) = n)) := by
  have h := l2Row_l0 l n hi 0 (by omega) hl
  simpa [spec_l2Row.f] using h

/-! l2Good -/
theorem l2Good_ev (n s u h : List Int) (hn : n.length ≤ 2000000) (hs : s.length ≤ 2000000) (hu : u.length ≤ 2000000) (hh : h.length ≤ 2000000) : Ev (fun k => spec_l2Good.f k n s u h) (decide (OkCase n s u h)) := by
  unfold spec_l2Good.f
  by_cases c : (n.length : Int) ≤ 8
  · refine ev_ifp c (ev_bind (l2Row_ev n _ 20 hn) ?_)
    by_cases c1 : ∀ x ∈ n, 0 ≤ x ∧ x ≤ 20
    · refine ev_ifp (by simpa using c1) (ev_bind (l2Row_ev s _ 99 hs) ?_)
      by_cases c2 : (∀ x ∈ s, 0 ≤ x ∧ x ≤ 99) ∧ (s.length : Int) = n.length
      · refine ev_ifp (by rw [decide_eq_true_iff]; exact c2) (ev_bind (l2Row_ev u _ 9 hu) ?_)
        by_cases c3 : (∀ x ∈ u, 0 ≤ x ∧ x ≤ 9) ∧ (u.length : Int) = n.length
        · refine ev_ifp (by rw [decide_eq_true_iff]; exact c3) (ev_bind (l2Row_ev h _ 9 hh) (ev_now ?_))
          rw [decide_eq_decide]
          exact ⟨fun z => ⟨⟨by omega, by omega, by omega, by omega⟩, c1, c2.1, c3.1, z.1⟩, fun z => ⟨z.2.2.2.2, by have := z.1.2.2.2; omega⟩⟩
        · refine ev_ifn (by rw [decide_eq_true_iff]; exact c3) (ev_now ?_)
          symm; rw [decide_eq_false_iff_not]; exact fun z => c3 ⟨z.2.2.2.1, by have := z.1.2.2.1; omega⟩
      · refine ev_ifn (by rw [decide_eq_true_iff]; exact c2) (ev_now ?_)
        symm; rw [decide_eq_false_iff_not]; exact fun z => c2 ⟨z.2.2.1, by have := z.1.2.1; omega⟩
    · refine ev_ifn (by simpa using c1) (ev_now ?_)
      symm; rw [decide_eq_false_iff_not]; exact fun z => c1 z.2.1
  · refine ev_ifn c (ev_now ?_)
    symm; rw [decide_eq_false_iff_not]; exact fun z => c (by have := z.1.1; omega)

/-! okc -/
/-- The bounds of a valid case's numbers, place by place. -/
theorem okc_n {n s u h : List Int} (c : OkCase n s u h) (i : Nat) (hi : i < n.length) : 0 ≤ rd n (i : Int) ∧ rd n (i : Int) ≤ 20 := c.2.1 _ (rd_mem n i hi)
theorem okc_s {n s u h : List Int} (c : OkCase n s u h) (i : Nat) (hi : i < n.length) : 0 ≤ rd s (i : Int) ∧ rd s (i : Int) ≤ 99 := c.2.2.1 _ (rd_mem s i (by have := c.1; omega))
theorem okc_u {n s u h : List Int} (c : OkCase n s u h) (i : Nat) (hi : i < n.length) : 0 ≤ rd u (i : Int) ∧ rd u (i : Int) ≤ 9 := c.2.2.2.1 _ (rd_mem u i (by have := c.1; omega))
theorem okc_h {n s u h : List Int} (c : OkCase n s u h) (i : Nat) (hi : i < n.length) : 0 ≤ rd h (i : Int) ∧ rd h (i : Int) ≤ 9 := c.2.2.2.2 _ (rd_mem h i (by have := c.1; omega))

/-! words -/
/-- The text of period i. -/
def wd (n s u h : List Int) (i : Nat) : List UInt8 := Lib.itoa (rd n i) ++ [47] ++ Lib.itoa (rd s i) ++ [47] ++ Lib.itoa (rd u i) ++ [47] ++ Lib.itoa (rd h i)
/-- The text of the first i periods. -/
def tx (n s u h : List Int) : Nat → List UInt8
  | 0 => []
  | i + 1 => (tx n s u h i ++ (if 0 < i then [32] else [])) ++ wd n s u h i
theorem wd_len (n s u h : List Int) (c : OkCase n s u h) (i : Nat) (hi : i < n.length) : (wd n s u h i).length ≤ 200 := by
  have a1 := okc_n c i hi
  have a2 := okc_s c i hi
  have a3 := okc_u c i hi
  have a4 := okc_h c i hi
  have b1 := itoa_len (rd n i)
  have b2 := itoa_len (rd s i)
  have b3 := itoa_len (rd u i)
  have b4 := itoa_len (rd h i)
  unfold wd
  simp only [List.length_append, List.length_singleton]
  omega
theorem tx_len (n s u h : List Int) (c : OkCase n s u h) : ∀ i, i ≤ n.length → (tx n s u h i).length ≤ 201 * i := by
  intro i
  induction i with
  | zero => intro _; simp [tx]
  | succ i ih =>
    intro hi
    have a := ih (by omega)
    have b := wd_len n s u h c i (by omega)
    rw [tx]
    by_cases z : 0 < i
    · rw [if_pos z]; simp only [List.length_append, List.length_singleton]; omega
    · rw [if_neg z]; simp only [List.length_append, List.length_nil]; omega
theorem mk8_size (l : List UInt8) : (mk8 l).size = l.length := List.size_toArray

/-! l2Text -/
theorem l2Text_l0 (n s u h : List Int) (c : OkCase n s u h) (i : Nat) (hi : i ≤ n.length) :
    Ev (fun k => spec_l2Text.l0 k (mk8 (tx n s u h i)) (i : Int) n s u h) (if n.length = 0 then (⟨#[110, 111, 110, 101]⟩ : ByteArray) else mk8 (tx n s u h n.length)) := by
  have cl := c.1
  refine ev_succ ?_
  simp only [spec_l2Text.l0]
  by_cases hl : i < n.length
  · refine ev_ifp (by omega) ?_
    have a1 := okc_n c i hl
    have a2 := okc_s c i hl
    have a3 := okc_u c i hl
    have a4 := okc_h c i hl
    have b1 := itoa_len (rd n i)
    have b2 := itoa_len (rd s i)
    have b3 := itoa_len (rd u i)
    have b4 := itoa_len (rd h i)
    have bt := tx_len n s u h c i hi
    have h47 : (⟨#[47]⟩ : ByteArray).size = 1 := rfl
    have h32 : (⟨#[32]⟩ : ByteArray).size = 1 := rfl
    have e (v : Int) : (⟨(Lib.itoa v).toArray⟩ : ByteArray).size = (Lib.itoa v).length := List.size_toArray
    have step : ∀ x : List UInt8, x.length ≤ 10000 → x = tx n s u h i ++ (if 0 < i then [32] else []) → Ev (fun k => spec_l2Text.j1 k (mk8 x) (i : Int) n s u h) (if n.length = 0 then (⟨#[110, 111, 110, 101]⟩ : ByteArray) else mk8 (tx n s u h n.length)) := by
      intro x hx ex
      have ms : (mk8 x).size = x.length := List.size_toArray
      refine ev_succ ?_
      simp only [spec_l2Text.j1]
      refine ev_ifp (by omega) (ev_ifp (by omega) (ev_bind (num_ev _ (by omega) (by omega)) ?_))
      refine ev_ifp (by simp only [ByteArray.size_append, e, h47, ms]; omega) (ev_ifp (by simp only [ByteArray.size_append, e, h47, ms]; omega) (ev_ifp (by omega) (ev_bind (num_ev _ (by omega) (by omega)) ?_)))
      refine ev_ifp (by simp only [ByteArray.size_append, e, h47, ms]; omega) (ev_ifp (by simp only [ByteArray.size_append, e, h47, ms]; omega) (ev_ifp (by omega) (ev_bind (num_ev _ (by omega) (by omega)) ?_)))
      refine ev_ifp (by simp only [ByteArray.size_append, e, h47, ms]; omega) (ev_ifp (by simp only [ByteArray.size_append, e, h47, ms]; omega) (ev_ifp (by omega) (ev_bind (num_ev _ (by omega) (by omega)) ?_)))
      refine ev_ifp (by simp only [ByteArray.size_append, e, h47, ms]; omega) ?_
      rw [w64 (x := (i : Int) + 1) (by omega) (by omega)]
      have et : (((((((mk8 x ++ (⟨(Lib.itoa (rd n i)).toArray⟩ : ByteArray)) ++ (⟨#[47]⟩ : ByteArray)) ++ (⟨(Lib.itoa (rd s i)).toArray⟩ : ByteArray)) ++ (⟨#[47]⟩ : ByteArray)) ++ (⟨(Lib.itoa (rd u i)).toArray⟩ : ByteArray)) ++ (⟨#[47]⟩ : ByteArray)) ++ (⟨(Lib.itoa (rd h i)).toArray⟩ : ByteArray)) = mk8 (tx n s u h (i + 1)) := by
        apply ByteArray.ext
        apply Array.toList_inj.1
        rw [tx, ← ex]
        simp [mk8, wd, ByteArray.data_append]
      rw [et]
      exact l2Text_l0 n s u h c (i + 1) (by omega)
    by_cases z : 0 < i
    · refine ev_ifp (by omega) (ev_ifp (by rw [mk8_size]; omega) ?_)
      have e2 : mk8 (tx n s u h i) ++ (⟨#[32]⟩ : ByteArray) = mk8 (tx n s u h i ++ [32]) := by
        apply ByteArray.ext
        simp [mk8, ByteArray.data_append]
      rw [e2]
      exact step _ (by simp only [List.length_append, List.length_singleton]; omega) (by rw [if_pos z])
    · exact ev_ifn (by omega) (step _ (by omega) (by rw [if_neg z, List.append_nil]))
  · obtain rfl : i = n.length := by omega
    refine ev_ifn (by omega) ?_
    by_cases z : n.length = 0
    · rw [if_pos z]; exact ev_ifp (by omega) (ev_now rfl)
    · rw [if_neg z]; exact ev_ifn (by omega) (ev_now rfl)
 termination_by n.length - i

/-! decimals -/
theorem decimals4 (a b c d : Int) (ha : 0 ≤ a ∧ a ≤ 100) (hb : 0 ≤ b ∧ b ≤ 100) (hc : 0 ≤ c ∧ c ≤ 100) (hd : 0 ≤ d ∧ d ≤ 100) :
    Ev (fun k => impl_decimals.f k [a, b, c, d] (⟨#[47]⟩ : ByteArray)) (mk8 (Lib.itoa a ++ [47] ++ Lib.itoa b ++ [47] ++ Lib.itoa c ++ [47] ++ Lib.itoa d)) := by
  have b1 := itoa_len a
  have b2 := itoa_len b
  have b3 := itoa_len c
  have b4 := itoa_len d
  have ei : ∀ v : Int, 0 ≤ v ∧ v ≤ 100 → strconv_Itoa_49.f v = some (mk8 (Lib.itoa v)) := fun v hv => if_pos (by omega)
  unfold impl_decimals.f
  refine ev_succ ?_
  simp only [impl_decimals.l0]
  refine ev_ifp (by simp) (ev_ifp (by omega) (ev_ifp (by simp) ?_))
  rw [show rd [a, b, c, d] 0 = a from rfl, ei a ha, w64 (x := 0 + 1) (by omega) (by omega)]
  simp only [Option.bind_some]
  refine ev_ifp (by simp) (ev_succ ?_)
  simp only [impl_decimals.l0]
  refine ev_ifp (by simp) (ev_ifp (by omega) (ev_ifp (by simp) ?_))
  rw [show rd [a, b, c, d] (0 + 1) = b from rfl, ei b hb, w64 (x := 0 + 1 + 1) (by omega) (by omega)]
  simp only [Option.bind_some]
  refine ev_ifp (by simp) (ev_succ ?_)
  simp only [impl_decimals.l0]
  refine ev_ifp (by simp) (ev_ifp (by omega) (ev_ifp (by simp) ?_))
  rw [show rd [a, b, c, d] (0 + 1 + 1) = c from rfl, ei c hc, w64 (x := 0 + 1 + 1 + 1) (by omega) (by omega)]
  simp only [Option.bind_some]
  refine ev_ifp (by simp) (ev_succ ?_)
  simp only [impl_decimals.l0]
  refine ev_ifp (by simp) (ev_ifp (by omega) (ev_ifp (by simp) ?_))
  rw [show rd [a, b, c, d] (0 + 1 + 1 + 1) = d from rfl, ei d hd, w64 (x := 0 + 1 + 1 + 1 + 1) (by omega) (by omega)]
  simp only [Option.bind_some]
  refine ev_ifp (by simp) (ev_succ ?_)
  simp only [impl_decimals.l0]
  refine ev_ifn (by simp) ?_
  have ej : strings_Join.f ((([] ++ [mk8 (Lib.itoa a)]) ++ [mk8 (Lib.itoa b)]) ++ [mk8 (Lib.itoa c)] ++ [mk8 (Lib.itoa d)]) (⟨#[47]⟩ : ByteArray) = some (mk8 (Lib.itoa a ++ [47] ++ Lib.itoa b ++ [47] ++ Lib.itoa c ++ [47] ++ Lib.itoa d)) := by
    have e : Lib.join (((((([] : List ByteArray) ++ [mk8 (Lib.itoa a)]) ++ [mk8 (Lib.itoa b)]) ++ [mk8 (Lib.itoa c)]) ++ [mk8 (Lib.itoa d)]).map (fun z : ByteArray => z.data.toList)) (⟨#[47]⟩ : ByteArray).data.toList = Lib.itoa a ++ [47] ++ Lib.itoa b ++ [47] ++ Lib.itoa c ++ [47] ++ Lib.itoa d := by
      simp [Lib.join_cons, Lib.joinTail, mk8]
    unfold strings_Join.f
    rw [e]
    refine if_pos ⟨by simp, by simp, ?_⟩
    simp only [List.length_append, List.length_singleton]
    omega
  rw [ej]
  exact ev_now rfl

/-! caseText -/
def words (n s u h : List Int) (i : Nat) : List ByteArray := (List.range i).map (fun j => mk8 (wd n s u h j))
theorem words_succ (n s u h : List Int) (i : Nat) : words n s u h (i + 1) = words n s u h i ++ [mk8 (wd n s u h i)] := by
  unfold words
  rw [List.range_succ, List.map_append]
  rfl
theorem words_len (n s u h : List Int) (i : Nat) : (words n s u h i).length = i := by simp [words]
theorem words_join (n s u h : List Int) (i : Nat) : 0 < i → Lib.join ((words n s u h i).map (·.data.toList)) [32] = tx n s u h i := by
  induction i with
  | zero => intro h; omega
  | succ i ih =>
    intro _
    rw [words_succ, tx, List.map_append]
    by_cases z : 0 < i
    · rw [if_pos z, ← ih z]
      obtain ⟨x, r, e⟩ : ∃ x r, (words n s u h i).map (·.data.toList) = x :: r := by
        cases e : (words n s u h i).map (·.data.toList) with
        | nil => have := congrArg List.length e; rw [List.length_map, words_len] at this; simp at this; omega
        | cons x r => exact ⟨x, r, rfl⟩
      rw [e, List.cons_append, Lib.join_cons, Lib.join_cons]
      simp [Lib.joinTail, mk8]
    · obtain rfl : i = 0 := by omega
      simp [words, tx, mk8, Lib.join_one]
theorem caseText_l0 (n s u h : List Int) (c : OkCase n s u h) (i : Nat) (hi : i ≤ n.length) :
    Ev (fun k => impl_caseText.l0 k (words n s u h i) n (n.length : Int) (i : Int) n s u h) (if n.length = 0 then (⟨#[110, 111, 110, 101]⟩ : ByteArray) else mk8 (tx n s u h n.length)) := by
  have cl := c.1
  refine ev_succ ?_
  simp only [impl_caseText.l0]
  by_cases hl : i < n.length
  · have a1 := okc_n c i hl
    have a2 := okc_s c i hl
    have a3 := okc_u c i hl
    have a4 := okc_h c i hl
    refine ev_ifp (by omega) (ev_ifp (by omega) (ev_ifp (by omega) (ev_ifp (by omega) (ev_ifp (by omega) (ev_ifp (by omega) ?_)))))
    refine ev_bind (decimals4 _ _ _ _ (by omega) (by omega) (by omega) (by omega)) (ev_ifp (by rw [words_len]; omega) ?_)
    rw [w64 (x := (i : Int) + 1) (by omega) (by omega)]
    have e := words_succ n s u h i
    unfold wd at e
    rw [← e]
    exact caseText_l0 n s u h c (i + 1) (by omega)
  · obtain rfl : i = n.length := by omega
    refine ev_ifn (by omega) ?_
    by_cases z : n.length = 0
    · rw [if_pos z]; exact ev_ifp (by rw [words_len]; omega) (ev_now rfl)
    · rw [if_neg z]
      refine ev_ifn (by rw [words_len]; omega) ?_
      have e : strings_Join.f (words n s u h n.length) (⟨#[32]⟩ : ByteArray) = some (mk8 (tx n s u h n.length)) := by
        have ej : Lib.join ((words n s u h n.length).map (·.data.toList)) (⟨#[32]⟩ : ByteArray).data.toList = tx n s u h n.length := words_join n s u h n.length (by omega)
        unfold strings_Join.f
        rw [ej]
        have bt := tx_len n s u h c n.length (Nat.le_refl _)
        exact if_pos ⟨by rw [words_len]; omega, by rw [words_len]; omega, by omega⟩
      rw [e]
      exact ev_now rfl
 termination_by n.length - i

/-! pcloop -/
def BADC : List Int × List Int × List Int × List Int × Bool := ([], [], [], [], false)
def Small (R : List Int × List Int × List Int × List Int × Bool) : Prop := (R.1.length ≤ 100 ∧ R.2.1.length ≤ 100) ∧ R.2.2.1.length ≤ 100 ∧ R.2.2.2.1.length ≤ 100
theorem t_both (s : ByteArray) (n t u h : List Int) (hn : n.length ≤ 100) (ht : t.length ≤ 100) (hu : u.length ≤ 100) (hh : h.length ≤ 100) :
    ∃ R, Ev (fun k => spec_ParseCase.t k s n t u h) R ∧ Ev (fun k => impl_ParseCase.t k s n t u h) R ∧ Small R ∧ (8 < n.length → R = BADC) := by
  unfold spec_ParseCase.t impl_ParseCase.t
  have g1 := l2Good_ev n t u h (by omega) (by omega) (by omega) (by omega)
  have g2 := IsCase_ev n t u h (by omega) (by omega) (by omega) (by omega)
  by_cases c : OkCase n t u h
  · have e1 := l2Text_l0 n t u h c 0 (by omega)
    have e2 := caseText_l0 n t u h c 0 (by omega)
    generalize (if n.length = 0 then (⟨#[110, 111, 110, 101]⟩ : ByteArray) else mk8 (tx n t u h n.length)) = X at e1 e2
    by_cases d : X.toList = s.toList
    · exact ⟨(n, t, u, h, true), ev_bind g1 (ev_ifp (by simpa using c) (ev_bind e1 (ev_ifp d (ev_now rfl)))), ev_bind g2 (ev_ifp (by simpa using c) (ev_bind e2 (ev_ifp d (ev_now rfl)))), ⟨⟨hn, ht⟩, hu, hh⟩, fun z => by have := c.1.1; omega⟩
    · exact ⟨BADC, ev_bind g1 (ev_ifp (by simpa using c) (ev_bind e1 (ev_ifn d (ev_now rfl)))), ev_bind g2 (ev_ifp (by simpa using c) (ev_bind e2 (ev_ifn d (ev_now rfl)))), ⟨⟨Nat.zero_le _, Nat.zero_le _⟩, Nat.zero_le _, Nat.zero_le _⟩, fun _ => rfl⟩
  · exact ⟨BADC, ev_bind g1 (ev_ifn (by simpa using c) (ev_now rfl)), ev_bind g2 (ev_ifn (by simpa using c) (ev_now rfl)), ⟨⟨Nat.zero_le _, Nat.zero_le _⟩, Nat.zero_le _, Nat.zero_le _⟩, fun _ => rfl⟩
theorem small_bad : Small BADC := ⟨⟨Nat.zero_le _, Nat.zero_le _⟩, Nat.zero_le _, Nat.zero_le _⟩
theorem loops (s : ByteArray) (ws : List ByteArray) (hw : ∀ w ∈ ws, w.size ≤ 2000000) (d : Nat) : ∀ (i : Nat) (n t u h : List Int), i + d = 9 → i ≤ 8 → n.length = i → t.length = i → u.length = i → h.length = i →
    ∃ R, Ev (fun k => spec_ParseCase.l k s ws (d + 1) (i : Int) n t u h) R ∧ Ev (fun k => impl_ParseCase.l k s ws (d + 1) (i : Int) n t u h) R ∧ Small R := by
  induction d with
  | zero => intro i n t u h h1 h2; omega
  | succ d ih =>
    intro i n t u h h1 h2 hn ht hu hh
    by_cases c : i < ws.length
    · have e : rdOf ByteArray.empty ws (i : Int) = ws[i] := by simp [rdOf, List.getD_eq_getElem?_getD, c]
      have hsz := hw ws[i] (List.getElem_mem c)
      have a2 := l2_ev ws[i] hsz
      obtain ⟨r, ar, hc⟩ := rn_ev ws[i] hsz
      have key : ∀ R, Ev (fun k => if (l2R (wordR ws[i])).2 = true then spec_ParseCase.l k s ws (d + 1) ((i : Int) + 1) (n ++ [rd (l2R (wordR ws[i])).1 0]) (t ++ [rd (l2R (wordR ws[i])).1 1]) (u ++ [rd (l2R (wordR ws[i])).1 2]) (h ++ [rd (l2R (wordR ws[i])).1 3]) else some ([], [], [], [], false)) R →
          Ev (fun k => if r.2 = true then (if r.1.length = 4 then (if n.length = 8 then some ([], [], [], [], false) else impl_ParseCase.l k s ws (d + 1) ((i : Int) + 1) (n ++ [rd r.1 0]) (t ++ [rd r.1 1]) (u ++ [rd r.1 2]) (h ++ [rd r.1 3])) else some ([], [], [], [], false)) else some ([], [], [], [], false)) R → Small R →
          ∃ R, Ev (fun k => spec_ParseCase.l k s ws (d + 1 + 1) (i : Int) n t u h) R ∧ Ev (fun k => impl_ParseCase.l k s ws (d + 1 + 1) (i : Int) n t u h) R ∧ Small R := by
        intro R k1 k2 k3
        refine ⟨R, ?_, ?_, k3⟩
        · simp only [spec_ParseCase.l]
          rw [e]
          exact ev_ifp ⟨by omega, by omega⟩ (ev_bind a2 k1)
        · simp only [impl_ParseCase.l]
          rw [e]
          exact ev_ifp (by omega) (ev_bind ar k2)
      rcases hc with ⟨hnone, hbad⟩ | ⟨l, hsome, hr, hl4⟩
      · refine key BADC ?_ ?_ small_bad
        · rw [hnone]; exact ev_ifn (by simp [l2R]) (ev_now rfl)
        · by_cases b : r.2 = true
          · exact ev_ifp b (ev_ifn (hbad b) (ev_now rfl))
          · exact ev_ifn b (ev_now rfl)
      · obtain ⟨m0, m1, m2, m3, rfl⟩ := quad_of l hl4
        subst hr
        rw [hsome] at key
        by_cases c8 : n.length = 8
        · refine key BADC ?_ (ev_ifp rfl (ev_ifp rfl (ev_ifp c8 (ev_now rfl)))) small_bad
          refine ev_ifp rfl ?_
          simp only [spec_ParseCase.l]
          obtain ⟨R, q1, _, _, q4⟩ := t_both s (n ++ [m0]) (t ++ [m1]) (u ++ [m2]) (h ++ [m3]) (by simp; omega) (by simp; omega) (by simp; omega) (by simp; omega)
          rw [q4 (by simp; omega)] at q1
          exact ev_ifn (by omega) q1
        · obtain ⟨R, q1, q2, q3⟩ := ih (i + 1) (n ++ [m0]) (t ++ [m1]) (u ++ [m2]) (h ++ [m3]) (by omega) (by omega) (by simp; omega) (by simp; omega) (by simp; omega) (by simp; omega)
          rw [show (((i + 1 : Nat)) : Int) = (i : Int) + 1 by omega] at q1 q2
          exact key R (ev_ifp rfl q1) (ev_ifp rfl (ev_ifp rfl (ev_ifn c8 q2))) q3
    · obtain ⟨R, q1, q2, q3, _⟩ := t_both s n t u h (by omega) (by omega) (by omega) (by omega)
      refine ⟨R, ?_, ?_, q3⟩
      · simp only [spec_ParseCase.l]
        exact ev_ifn (fun z => by omega) q1
      · simp only [impl_ParseCase.l]
        exact ev_ifn (by omega) q2

/-! eqIntS -/
theorem eqIntS_l0 (l : List Int) (i : Nat) (hi : i ≤ l.length) (hl : l.length ≤ 2000000) : Ev (fun k => laws_eqIntS.l0 k l l (i : Int)) true := by
  refine ev_succ ?_
  by_cases h : i < l.length
  · simp (disch := omega) only [laws_eqIntS.l0, if_pos, w64]
    exact eqIntS_l0 l (i + 1) (by omega) hl
  · simp (disch := omega) only [laws_eqIntS.l0, if_neg]
    exact ev_now rfl
 termination_by l.length - i
theorem eqIntS_ev (l : List Int) (hl : l.length ≤ 2000000) : Ev (fun k => laws_eqIntS.f k l l) true := by
  simp (disch := omega) only [laws_eqIntS.f, if_pos]
  exact eqIntS_l0 l 0 (by omega) hl

/-! eqCase -/
theorem eqCase_ev (n s u h : List Int) (hn : n.length ≤ 2000000) (hs : s.length ≤ 2000000) (hu : u.length ≤ 2000000) (hh : h.length ≤ 2000000) : Ev (fun k => laws_eqCase.f k n s u h n s u h) true := by
  unfold laws_eqCase.f
  exact ev_bind (eqIntS_ev n hn) (ev_ifp rfl (ev_bind (eqIntS_ev s hs) (ev_ifp rfl (ev_bind (eqIntS_ev u hu) (ev_ifp rfl (ev_bind (eqIntS_ev h hh) (ev_ifp rfl (ev_now rfl))))))))

/-! markIntS -/
theorem markIntS_l0 (l : List Int) (m : Int) (i : Nat) (acc : List Int) (hm : 0 ≤ m) (hm2 : m ≤ 100000000) (hi : i ≤ l.length) (hl : l.length ≤ 2000000) (ha : acc.length = l.length) (hg : ∀ j, j < i → acc[j]? = (up m l.length)[j]?) :
    Ev (fun k => laws_markIntS.l0 k acc (m + i) (i : Int)) (m + l.length, up m l.length) := by
  refine ev_succ ?_
  by_cases h : i < l.length
  · simp (disch := omega) only [laws_markIntS.l0, if_pos, w64, Int.toNat_natCast]
    rw [show m + (i : Int) + 1 = m + ((i + 1 : Nat) : Int) by omega, show (i : Int) + 1 = ((i + 1 : Nat) : Int) by omega]
    refine markIntS_l0 l m (i + 1) (acc.set i (m + i)) hm hm2 (by omega) hl (by simpa using ha) (fun j hj => ?_)
    rw [set_get _ _ _ _ (by omega)]
    by_cases e : j = i
    · subst e; rw [if_pos rfl, up_get m _ _ h]
    · rw [if_neg e]; exact hg j (by omega)
  · simp (disch := omega) only [laws_markIntS.l0, if_neg]
    obtain rfl : i = l.length := by omega
    exact ev_now (by rw [eq_of_get (m := up m l.length) (by rw [up_length, ha]) (fun j hj => hg j (by omega))])
 termination_by l.length - i
theorem markIntS_ev (l : List Int) (m : Int) (hm : 0 ≤ m) (hm2 : m ≤ 100000000) (hl : l.length ≤ 2000000) : Ev (fun k => laws_markIntS.f k l m) (m + l.length, up m l.length) := by
  have h := markIntS_l0 l m 0 l hm hm2 (by omega) hl rfl (fun j hj => by omega)
  simpa [laws_markIntS.f] using h

/-! markCase -/
theorem markCase_ev (n s u h : List Int) (m : Int) (h0 : 0 ≤ m) (h1 : m ≤ 10000000) (hn : n.length ≤ 2000000) (hs : s.length ≤ 2000000) (hu : u.length ≤ 2000000) (hh : h.length ≤ 2000000) :
    Ev (fun k => laws_markCase.f k n s u h m) (m + n.length + s.length + u.length + h.length, up m n.length, up (m + n.length) s.length, up (m + n.length + s.length) u.length, up (m + n.length + s.length + u.length) h.length) := by
  unfold laws_markCase.f
  exact ev_bind (markIntS_ev n m h0 (by omega) hn) (ev_bind (markIntS_ev s _ (by omega) (by omega) hs) (ev_bind (markIntS_ev u _ (by omega) (by omega) hu) (ev_bind (markIntS_ev h _ (by omega) (by omega) hh) (ev_now rfl))))

/-! heldIntS -/
theorem heldIntS_l0 (n : Nat) (m : Int) (i : Nat) (hm : 0 ≤ m) (hm2 : m ≤ 100000000) (hi : i ≤ n) (hl : n ≤ 2000000) :
    Ev (fun k => laws_heldIntS.l0 k (up m n) (m + i) (i : Int)) (m + n) := by
  refine ev_succ ?_
  by_cases h : i < n
  · simp (disch := omega) only [laws_heldIntS.l0, up_length, if_pos, w64, up_rd m n i h]
    rw [show m + (i : Int) + 1 = m + ((i + 1 : Nat) : Int) by omega, show (i : Int) + 1 = ((i + 1 : Nat) : Int) by omega]
    exact heldIntS_l0 n m (i + 1) hm hm2 (by omega) hl
  · simp (disch := omega) only [laws_heldIntS.l0, up_length, if_neg]
    obtain rfl : i = n := by omega
    exact ev_now rfl
 termination_by n - i
theorem heldIntS_ev (n : Nat) (m : Int) (hm : 0 ≤ m) (hm2 : m ≤ 100000000) (hl : n ≤ 2000000) : Ev (fun k => laws_heldIntS.f k (up m n) m) (m + n) := by
  have h := heldIntS_l0 n m 0 hm hm2 (by omega) hl
  simpa [laws_heldIntS.f] using h

/-! heldCase -/
theorem heldCase_ev (a b c d : Nat) (ha : a ≤ 100) (hb : b ≤ 100) (hc : c ≤ 100) (hd : d ≤ 100) : Ev (fun k => laws_heldCase.f k (up 1 a) (up (1 + a) b) (up (1 + a + b) c) (up (1 + a + b + c) d) 1) (1 + a + b + c + d) := by
  unfold laws_heldCase.f
  exact ev_bind (heldIntS_ev a 1 (by omega) (by omega) (by omega)) (ev_ifn (by omega) (ev_bind (heldIntS_ev b _ (by omega) (by omega) (by omega)) (ev_ifn (by omega) (ev_bind (heldIntS_ev c _ (by omega) (by omega) (by omega)) (ev_ifn (by omega) (ev_bind (heldIntS_ev d _ (by omega) (by omega) (by omega)) (ev_ifn (by omega) (ev_now rfl))))))))

/-! LAW FnExactParseCase -/
theorem FnExactParseCase (s : ByteArray) (_ : s.size ≤ maxLen) : ∃ k, laws_FnExactParseCase.Facts k s := by
  unfold laws_FnExactParseCase.Facts
  by_cases c0 : (s.size : Int) > 1048576
  · exact ⟨0, .inl c0⟩
  have hs : s.size ≤ 2000000 := by omega
  have hz : s.data.toList.length = s.size := Array.length_toList
  obtain ⟨R, h2, h3, hR⟩ : ∃ R, Ev (fun k => spec_ParseCase.f k s) R ∧ Ev (fun k => impl_ParseCase.f k s) R ∧ Small R := by
    unfold spec_ParseCase.f impl_ParseCase.f
    by_cases cn : s.toList = ([110, 111, 110, 101] : List UInt8)
    · exact ⟨([], [], [], [], true), ev_ifp cn (ev_now rfl), ev_ifp cn (ev_now rfl), ⟨Nat.zero_le _, Nat.zero_le _⟩, Nat.zero_le _, Nat.zero_le _⟩
    · have hm := parts_mem 32 s.data.toList
      obtain ⟨R, q1, q2, q3⟩ := loops s ((parts 32 s.data.toList).map mk8) (fun w hw => by
        obtain ⟨p, hp, rfl⟩ := List.mem_map.1 hw
        have h1 : (mk8 p).size = p.length := List.size_toArray
        have h2 := hm p hp
        omega) 9 0 [] [] [] [] rfl (by omega) rfl rfl rfl rfl
      refine ⟨R, ev_ifn cn (ev_bind (l1Split_ev s hs 32) q1), ev_ifn cn ?_, q3⟩
      rw [split_some s 32 hs]
      simp only [Option.bind_some]
      exact q2
  obtain ⟨R0, R1, R2, R3, b⟩ := R
  obtain ⟨⟨l0, l1⟩, l2, l3⟩ := hR
  simp only at l0 l1 l2 l3
  obtain ⟨K2, h2⟩ := h2
  obtain ⟨K3, h3⟩ := h3
  obtain ⟨K7, h7⟩ := eqCase_ev R0 R1 R2 R3 (by omega) (by omega) (by omega) (by omega)
  obtain ⟨K8, h8⟩ := markCase_ev R0 R1 R2 R3 1 (by omega) (by omega) (by omega) (by omega) (by omega) (by omega)
  obtain ⟨K9, h9⟩ := heldCase_ev R0.length R1.length R2.length R3.length (by omega) (by omega) (by omega) (by omega)
  exact ⟨K2 + K3 + K7 + K8 + K9, .inr ⟨R0, R1, R2, R3, b, _, _, _, _, _, c0, h2 _ (by omega), h3 _ (by omega), h7 _ (by omega), h8 _ (by omega), h9 _ (by omega), by omega, up_length _ _, up_length _ _, up_length _ _, up_length _ _⟩⟩

end Go.Proofs.YtbdbogpmnmcaeaaDoor.Pure
