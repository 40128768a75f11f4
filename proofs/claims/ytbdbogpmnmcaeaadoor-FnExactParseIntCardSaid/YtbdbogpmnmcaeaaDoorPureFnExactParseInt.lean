/- The pure statement of the law FnExactParseInt: what the program's function answers is what the reference answers, for all arguments of the kinds of its parameters. -/
import Derived.Test.YtbdbogpmnmcaeaaDoorQFnExactParseIntx2
import Derived.Test.YtbdbogpmnmcaeaaDoorBase
namespace Go.Proofs.YtbdbogpmnmcaeaaDoor.Pure
set_option linter.unusedSimpArgs false
open Go.RowKit Go.Proofs.YtbdbogpmnmcaeaaDoor.PFnExactParseInt Go.Proofs.YtbdbogpmnmcaeaaDoorW.PrintWords Go.Proofs.YtbdbogpmnmcaeaaDoorW.PrintLast Go.Proofs.YtbdbogpmnmcaeaaDoor.Base

/-! num -/
theorem digit_at (d : Nat) (h : d < 10) : (⟨#[48, 49, 50, 51, 52, 53, 54, 55, 56, 57]⟩ : ByteArray).extract d (d + 1) = ⟨#[UInt8.ofNat (48 + d)]⟩ := by
  match d, h with
  | 0, _ => rfl
  | 1, _ => rfl
  | 2, _ => rfl
  | 3, _ => rfl
  | 4, _ => rfl
  | 5, _ => rfl
  | 6, _ => rfl
  | 7, _ => rfl
  | 8, _ => rfl
  | 9, _ => rfl
theorem bytes_app (a b : List UInt8) : (⟨a.toArray⟩ : ByteArray) ++ (⟨b.toArray⟩ : ByteArray) = ⟨(a ++ b).toArray⟩ := by
  apply ByteArray.ext
  simp [ByteArray.data_append]
theorem decDigits_len (u : Nat) : (Lib.decDigits u).length ≤ u + 1 := by
  rw [Lib.decDigits]
  by_cases h : u < 10
  · rw [dif_pos h]; simp
  · rw [dif_neg h]
    have := decDigits_len (u / 10)
    simp only [List.length_append, List.length_singleton]
    omega
 termination_by u
 decreasing_by omega
theorem numN_ev (u : Nat) (hu : u ≤ 1000000000000) : Ev (fun k => spec_l1Num.f k (u : Int)) ⟨(Lib.decDigits u).toArray⟩ := by
  refine ev_succ ?_
  simp only [spec_l1Num.f]
  refine ev_ifn (by omega) ?_
  rw [Lib.decDigits]
  by_cases h : u < 10
  · rw [dif_pos h, w64 (by omega) (by omega)]
    refine ev_ifp (by omega) (ev_ifp (by omega) (ev_ifp (by omega) (ev_ifp (by omega) (ev_now ?_))))
    rw [show ((u : Int) + 1).toNat = u + 1 by omega, Int.toNat_natCast]
    exact digit_at u h
  · rw [dif_neg h]
    refine ev_ifn (by omega) ?_
    have e1 : Int.tdiv (u : Int) 10 = ((u / 10 : Nat) : Int) := rfl
    have e2 : Int.tmod (u : Int) 10 = ((u % 10 : Nat) : Int) := rfl
    have hd : u % 10 < 10 := by omega
    rw [e1, e2, w64 (x := ((u / 10 : Nat) : Int)) (by omega) (by omega), w64 (x := ((u % 10 : Nat) : Int) + 1) (by omega) (by omega)]
    refine ev_bind (numN_ev (u / 10) (by omega)) ?_
    have e3 : ((((u % 10 : Nat) : Int)) + 1).toNat = u % 10 + 1 := by omega
    rw [e3, Int.toNat_natCast, digit_at (u % 10) hd]
    have hl := decDigits_len (u / 10)
    have hs : (⟨(Lib.decDigits (u / 10)).toArray⟩ : ByteArray).size = (Lib.decDigits (u / 10)).length := List.size_toArray
    refine ev_ifp (by omega) (ev_ifp (by omega) (ev_ifp (by omega) (ev_ifp ?_ (ev_now ?_))))
    · have h1 : (⟨#[UInt8.ofNat (48 + u % 10)]⟩ : ByteArray).size = 1 := rfl
      rw [hs, h1]
      omega
    · exact bytes_app _ [UInt8.ofNat (48 + u % 10)]
 termination_by u
 decreasing_by omega
theorem num_ev (n : Int) (h0 : -1000000000000 ≤ n) (h1 : n ≤ 1000000000000) : Ev (fun k => spec_l1Num.f k n) ⟨(Lib.itoa n).toArray⟩ := by
  unfold Lib.itoa
  by_cases c : n < 0
  · rw [if_pos c]
    refine ev_succ ?_
    simp only [spec_l1Num.f]
    refine ev_ifp c ?_
    rw [w64 (by omega) (by omega), show -n = ((n.natAbs : Nat) : Int) by omega]
    refine ev_bind (numN_ev n.natAbs (by omega)) ?_
    have hl := decDigits_len n.natAbs
    have hs : (⟨(Lib.decDigits n.natAbs).toArray⟩ : ByteArray).size = (Lib.decDigits n.natAbs).length := List.size_toArray
    exact ev_ifp (by rw [hs]; omega) (ev_now (bytes_app [45] _))
  · rw [if_neg c]
    have e : n = ((n.toNat : Nat) : Int) := by omega
    have h := numN_ev n.toNat (by omega)
    rw [← e] at h
    exact h

/-! seal0 -/
theorem itoa_len (n : Int) : (Lib.itoa n).length ≤ n.natAbs + 2 := by
  unfold Lib.itoa
  by_cases c : n < 0
  · rw [if_pos c]
    have := decDigits_len n.natAbs
    simp only [List.length_cons]
    omega
  · rw [if_neg c]
    have := decDigits_len n.toNat
    omega

/-! parts -/
/-- The parts of a list between a byte. -/
def parts (c : UInt8) : List UInt8 → List (List UInt8)
  | [] => [[]]
  | b :: l => if b = c then [] :: parts c l else (match parts c l with
    | [] => [[b]]
    | p :: r => (b :: p) :: r)
theorem parts_ne (c : UInt8) (l : List UInt8) : ∃ p r, parts c l = p :: r := by
  cases l with
  | nil => exact ⟨_, _, rfl⟩
  | cons b l =>
    rw [parts]
    by_cases h : b = c
    · rw [if_pos h]; exact ⟨_, _, rfl⟩
    · rw [if_neg h]
      cases parts c l with
      | nil => exact ⟨_, _, rfl⟩
      | cons p r => exact ⟨_, _, rfl⟩
theorem parts_cons_ne (c b : UInt8) (l p : List UInt8) (r : List (List UInt8)) (h : b ≠ c) (e : parts c l = p :: r) : parts c (b :: l) = (b :: p) :: r := by
  rw [parts, if_neg h, e]
theorem parts_len (c : UInt8) (l : List UInt8) : (parts c l).length ≤ l.length + 1 := by
  induction l with
  | nil => simp [parts]
  | cons b l ih =>
    obtain ⟨p, r, e⟩ := parts_ne c l
    by_cases h : b = c
    · rw [parts, if_pos h]; simp only [List.length_cons]; omega
    · rw [parts_cons_ne c b l p r h e]; rw [e] at ih; simp only [List.length_cons] at ih ⊢; omega
theorem idx_ge (c : UInt8) (l : List UInt8) : -1 ≤ Lib.indexByte l c := Lib.indexByte_ge l c
theorem parts_miss (c : UInt8) (l : List UInt8) (h : Lib.indexByte l c = -1) : parts c l = [l] := by
  induction l with
  | nil => rfl
  | cons b l ih =>
    rw [Lib.indexByte] at h
    by_cases e : b = c
    · subst e; simp at h
    · have e1 : (b == c) = false := beq_eq_false_iff_ne.2 e
      rw [e1, if_neg (by decide)] at h
      have g := idx_ge c l
      by_cases f : Lib.indexByte l c = -1
      · exact parts_cons_ne c b l l [] e (ih f)
      · rw [if_neg (by simpa using f)] at h; omega
theorem parts_hit (c : UInt8) (l : List UInt8) : ∀ j : Nat, Lib.indexByte l c = j → j < l.length ∧ parts c l = l.take j :: parts c (l.drop (j + 1)) := by
  induction l with
  | nil => intro j h; rw [Lib.indexByte] at h; omega
  | cons b l ih =>
    intro j h
    rw [Lib.indexByte] at h
    by_cases e : b = c
    · have e1 : (b == c) = true := beq_iff_eq.2 e
      rw [e1, if_pos rfl] at h
      obtain rfl : j = 0 := by omega
      rw [parts, if_pos e]
      exact ⟨by simp, rfl⟩
    · have e1 : (b == c) = false := beq_eq_false_iff_ne.2 e
      rw [e1, if_neg (by decide)] at h
      have g := idx_ge c l
      by_cases f : Lib.indexByte l c = -1
      · rw [if_pos (by simpa using f)] at h; omega
      · rw [if_neg (by simpa using f)] at h
        obtain ⟨i, rfl⟩ : ∃ i, j = i + 1 := ⟨j - 1, by omega⟩
        obtain ⟨h1, h2⟩ := ih i (by omega)
        refine ⟨by rw [List.length_cons]; omega, ?_⟩
        rw [parts_cons_ne c b l _ _ e h2]
        rfl
/-- Some bytes ahead of the first part. -/
def glue (a : List UInt8) : List (List UInt8) → List (List UInt8)
  | [] => [a]
  | p :: r => (a ++ p) :: r
def mk8 (l : List UInt8) : ByteArray := ⟨l.toArray⟩
theorem glue_nil (c : UInt8) (l : List UInt8) : glue [] (parts c l) = parts c l := by
  obtain ⟨p, r, e⟩ := parts_ne c l
  rw [e]; rfl
theorem extract_mk (s : ByteArray) (a b : Nat) (_ : a ≤ b) : s.extract a b = mk8 ((s.data.toList.drop a).take (b - a)) := by
  apply ByteArray.ext
  apply Array.toList_inj.1
  rw [ByteArray.data_extract, Array.toList_extract]
  simp [mk8, List.extract_eq_take_drop]

/-! hasB -/
/-- Whether a byte stands in a string. -/
def hasB (s : ByteArray) (c : Int) : Bool := s.data.toList.any (fun b => decide ((b.toNat : Int) = c))
theorem bt_get (s : ByteArray) (i : Nat) (h : i < s.data.toList.length) : bt s (i : Int) = ((s.data.toList[i]).toNat : Int) := by
  have h1 : i < s.size := by rw [Array.length_toList] at h; exact h
  unfold bt
  rw [dif_pos (by simpa using h1)]
  simp [ByteArray.getElem_eq_getElem_data]

/-! l1In -/
theorem l1In_eq (a b c : Int) : spec_l1In.f a b c = some (decide (b ≤ a ∧ a ≤ c)) := by
  unfold spec_l1In.f
  by_cases h : a ≥ b
  · rw [if_pos h]; congr 1; rw [decide_eq_decide]; omega
  · rw [if_neg h]; congr 1; symm; rw [decide_eq_false_iff_not]; omega

/-! readNum -/
theorem decFrom_append (l : List UInt8) (b : UInt8) : ∀ acc, Lib.decFrom acc (l ++ [b]) = (Lib.decFrom acc l).bind fun m => (Lib.digitVal b).map fun d => m * 10 + d := by
  induction l with
  | nil =>
    intro acc
    simp only [List.nil_append, Lib.decFrom, Option.bind_some]
    cases Lib.digitVal b <;> rfl
  | cons c l ih =>
    intro acc
    simp only [List.cons_append, Lib.decFrom]
    cases Lib.digitVal c with
    | none => rfl
    | some d => exact ih _
theorem digit_val (d : Nat) (h : d < 10) : Lib.digitVal (UInt8.ofNat (48 + d)) = some d := by
  match d, h with
  | 0, _ => rfl
  | 1, _ => rfl
  | 2, _ => rfl
  | 3, _ => rfl
  | 4, _ => rfl
  | 5, _ => rfl
  | 6, _ => rfl
  | 7, _ => rfl
  | 8, _ => rfl
  | 9, _ => rfl
theorem dec_digits (u : Nat) : Lib.decFrom 0 (Lib.decDigits u) = some u := by
  rw [Lib.decDigits]
  by_cases h : u < 10
  · rw [dif_pos h]
    simp only [Lib.decFrom, digit_val u h]
    simp
  · rw [dif_neg h, decFrom_append, dec_digits (u / 10), Option.bind_some, digit_val (u % 10) (by omega)]
    simp only [Option.map_some]
    congr 1
    omega
 termination_by u
 decreasing_by omega
theorem dec_ne (u : Nat) : ∃ b r, Lib.decDigits u = b :: r ∧ b.toNat ≠ 45 ∧ b.toNat ≠ 43 := by
  have h := dec_digits u
  cases e : Lib.decDigits u with
  | nil =>
    rw [Lib.decDigits] at e
    by_cases z : u < 10
    · rw [dif_pos z] at e; simp at e
    · rw [dif_neg z] at e; simp at e
  | cons b r =>
    refine ⟨b, r, rfl, ?_⟩
    rw [e] at h
    simp only [Lib.decFrom, Lib.digitVal] at h
    by_cases z : 48 ≤ b.toNat ∧ b.toNat ≤ 57
    · omega
    · rw [if_neg z] at h; cases h
theorem dec_short : ∀ (k u : Nat), u < 10 ^ (k + 1) → (Lib.decDigits u).length ≤ k + 1
  | 0, u, h => by
    rw [Lib.decDigits, dif_pos (by simpa using h)]
    simp
  | k + 1, u, h => by
    rw [Lib.decDigits]
    by_cases z : u < 10
    · rw [dif_pos z]; simp
    · rw [dif_neg z, List.length_append, List.length_singleton]
      have := dec_short k (u / 10) (by rw [Nat.pow_succ] at h; omega)
      omega
theorem atoi_itoa (n : Int) : Lib.atoi (Lib.itoa n) = some n := by
  unfold Lib.itoa
  by_cases c : n < 0
  · obtain ⟨b, r, e, _⟩ := dec_ne n.natAbs
    have h := dec_digits n.natAbs
    rw [if_pos c, Lib.atoi, if_pos (by rfl), Lib.decNat, e]
    rw [e] at h
    simp only [List.isEmpty_cons, Bool.false_eq_true, if_false, h, Option.map_some]
    congr 1
    omega
  · obtain ⟨b, r, e, h45, h43⟩ := dec_ne n.toNat
    have h := dec_digits n.toNat
    rw [if_neg c, e, Lib.atoi, if_neg (fun z => h45 (by rw [beq_iff_eq.1 z]; rfl)), if_neg (fun z => h43 (by rw [beq_iff_eq.1 z]; rfl)), Lib.decNat]
    rw [e] at h
    simp only [List.isEmpty_cons, Bool.false_eq_true, if_false, h, Option.map_some]
    congr 1
    omega
theorem itoa_inj {a b : Int} (h : Lib.itoa a = Lib.itoa b) : a = b := by
  have e := atoi_itoa a
  rw [h, atoi_itoa b] at e
  exact (Option.some.inj e).symm
theorem itoa_short (n : Int) (h0 : -999999 ≤ n) (h1 : n ≤ 999999) : (Lib.itoa n).length ≤ 7 := by
  unfold Lib.itoa
  by_cases c : n < 0
  · rw [if_pos c, List.length_cons]
    have := dec_short 5 n.natAbs (by have : (10 : Nat) ^ (5 + 1) = 1000000 := by decide
                                     omega)
    omega
  · rw [if_neg c]
    have := dec_short 5 n.toNat (by have : (10 : Nat) ^ (5 + 1) = 1000000 := by decide
                                    omega)
    omega
/-- What a parse may answer. -/
def Parsed (l : List UInt8) (R : Int × Bool) : Prop :=
  (R = (0, false) ∧ ∀ n : Int, -999999 ≤ n → n ≤ 999999 → Lib.itoa n ≠ l) ∨ (∃ n : Int, -999999 ≤ n ∧ n ≤ 999999 ∧ Lib.itoa n = l ∧ R = (n, true))
theorem Parsed.one {l : List UInt8} {R S : Int × Bool} (h : Parsed l R) (k : Parsed l S) : R = S := by
  rcases h with ⟨rfl, h⟩ | ⟨n, h0, h1, h, rfl⟩
  · rcases k with ⟨rfl, _⟩ | ⟨m, k0, k1, k, rfl⟩
    · rfl
    · exact absurd k (h m k0 k1)
  · rcases k with ⟨rfl, k⟩ | ⟨m, k0, k1, k, rfl⟩
    · exact absurd h (k n h0 h1)
    · rw [itoa_inj (h.trans k.symm)]

/-! implParse -/
theorem impl_parsed (s : ByteArray) : ∃ R, impl_ParseInt.f s = some R ∧ Parsed s.data.toList R := by
  have hz : s.data.toList.length = s.size := Array.length_toList
  unfold impl_ParseInt.f
  by_cases c : 7 < s.size
  · refine ⟨(0, false), if_pos c, .inl ⟨rfl, fun n h0 h1 e => ?_⟩⟩
    have := itoa_short n h0 h1
    rw [e] at this
    omega
  rw [if_neg c]
  have ha := Lib.atoiAll_short s.data.toList (by omega)
  cases e : Lib.atoi s.data.toList with
  | none =>
    rw [ha, e]
    refine ⟨(0, false), rfl, .inl ⟨rfl, fun n h0 h1 z => ?_⟩⟩
    rw [← z, atoi_itoa] at e
    cases e
  | some v =>
    rw [ha, e]
    have hno : ∀ n, Lib.itoa n = s.data.toList → n = v := fun n z => by
      rw [← z, atoi_itoa] at e
      exact Option.some.inj e
    simp only [Lib.NumEnd.ofOption]
    by_cases c1 : v < -999999
    · exact ⟨(0, false), if_pos c1, .inl ⟨rfl, fun n h0 h1 z => by have := hno n z; omega⟩⟩
    rw [if_neg c1]
    by_cases c2 : 999999 < v
    · exact ⟨(0, false), if_pos c2, .inl ⟨rfl, fun n h0 h1 z => by have := hno n z; omega⟩⟩
    rw [if_neg c2]
    by_cases c3 : Lib.itoa v = s.data.toList
    · exact ⟨(v, true), if_pos c3, .inr ⟨v, by omega, by omega, c3, rfl⟩⟩
    · exact ⟨(0, false), if_neg c3, .inl ⟨rfl, fun n h0 h1 z => c3 (by rw [← hno n z]; exact z)⟩⟩

/-! specParse -/
/-- What the reference answers behind its look at the digits. -/
def fin (s t : ByteArray) (m : Nat) : Int × Bool :=
  if t.size < s.size then (if Lib.itoa (-(m : Int)) = s.data.toList then (-(m : Int), true) else (0, false)) else (if Lib.itoa (m : Int) = s.data.toList then ((m : Int), true) else (0, false))
def fins (s t : ByteArray) : Option Nat → Int × Bool
  | some m => fin s t m
  | none => (0, false)
theorem bytes_eq (l : List UInt8) (s : ByteArray) : ((⟨l.toArray⟩ : ByteArray).toList = s.toList) = (l = s.data.toList) := by
  rw [ByteArray.toList_eq, ByteArray.toList_eq]
theorem read_l0 (s t : ByteArray) (ht : t.size ≤ 6) (i : Nat) (hi : i ≤ t.size) (acc : Nat) (ha : acc < 10 ^ i) :
    Ev (fun k => spec_l1Read.l0 k s t (acc : Int) (i : Int)) (fins s t (Lib.decFrom acc (t.data.toList.drop i))) := by
  have hz : t.data.toList.length = t.size := Array.length_toList
  have hp : (10 : Nat) ^ i ≤ 1000000 := by
    have := Nat.pow_le_pow_right (show 0 < 10 by decide) (show i ≤ 6 by omega)
    have e : (10 : Nat) ^ 6 = 1000000 := by decide
    omega
  refine ev_succ ?_
  simp only [spec_l1Read.l0]
  by_cases h : i < t.size
  · have hl : i < t.data.toList.length := by omega
    refine ev_ifp (by omega) (ev_ifp (by omega) ?_)
    rw [List.drop_eq_getElem_cons hl, bt_get t i hl]
    generalize t.data.toList[i] = b
    have hb : b.toNat < 256 := b.toNat_lt
    by_cases c1 : (b.toNat : Int) < 48
    · refine ev_ifp c1 (ev_now ?_)
      simp only [Lib.decFrom, Lib.digitVal]
      rw [if_neg (by omega)]
      rfl
    refine ev_ifn c1 ?_
    by_cases c2 : (b.toNat : Int) > 57
    · refine ev_ifp c2 (ev_now ?_)
      simp only [Lib.decFrom, Lib.digitVal]
      rw [if_neg (by omega)]
      rfl
    refine ev_ifn c2 ?_
    have e1 : ((b.toNat : Int) - 48) % 256 = ((b.toNat - 48 : Nat) : Int) := by omega
    rw [e1, w64 (x := 10 * (acc : Int)) (by omega) (by omega), w64 (x := 10 * (acc : Int) + _) (by omega) (by omega), w64 (x := (i : Int) + 1) (by omega) (by omega)]
    have e2 : 10 * (acc : Int) + ((b.toNat - 48 : Nat) : Int) = ((acc * 10 + (b.toNat - 48) : Nat) : Int) := by omega
    rw [e2]
    refine ev_to (read_l0 s t ht (i + 1) (by omega) (acc * 10 + (b.toNat - 48)) (by rw [Nat.pow_succ]; omega)) ?_
    simp only [Lib.decFrom, Lib.digitVal]
    rw [if_pos (by omega)]
  · rw [List.drop_eq_nil_of_le (by omega)]
    refine ev_ifn (by omega) ?_
    simp only [Lib.decFrom, fins]
    unfold fin
    by_cases d : t.size < s.size
    · rw [if_pos d, w64 (by omega) (by omega)]
      refine ev_ifp (by omega) (ev_bind (num_ev _ (by omega) (by omega)) ?_)
      by_cases g : Lib.itoa (-(acc : Int)) = s.data.toList
      · rw [if_pos g]; exact ev_ifp ((bytes_eq _ s).mpr g) (ev_now rfl)
      · rw [if_neg g]; exact ev_ifn (fun z => g ((bytes_eq _ s).mp z)) (ev_now rfl)
    · rw [if_neg d]
      refine ev_ifn (by omega) (ev_bind (num_ev _ (by omega) (by omega)) ?_)
      by_cases g : Lib.itoa (acc : Int) = s.data.toList
      · rw [if_pos g]; exact ev_ifp ((bytes_eq _ s).mpr g) (ev_now rfl)
      · rw [if_neg g]; exact ev_ifn (fun z => g ((bytes_eq _ s).mp z)) (ev_now rfl)
 termination_by t.size - i

def j1R (s t : ByteArray) : Int × Bool := if 1 ≤ t.size ∧ t.size ≤ 6 then fins s t (Lib.decFrom 0 t.data.toList) else (0, false)
theorem j1_ev (s t : ByteArray) (h : t.size ≤ 2000000) : Ev (fun k => spec_l1Read.j1 k s t) (j1R s t) := by
  refine ev_succ ?_
  simp only [spec_l1Read.j1]
  rw [l1In_eq]
  simp only [Option.bind_some]
  unfold j1R
  by_cases c : 1 ≤ t.size ∧ t.size ≤ 6
  · rw [if_pos c]
    refine ev_ifp (decide_eq_true (by omega)) ?_
    exact read_l0 s t c.2 0 (by omega) 0 (by decide)
  · rw [if_neg c]
    refine ev_ifn ?_ (ev_now rfl)
    rw [decide_eq_true_iff]
    omega
theorem six (l : List UInt8) (m : Nat) (hl : l.length ≤ 6) (h : Lib.decFrom 0 l = some m) : m ≤ 999999 := by
  have h1 := Lib.decFrom_lt l 0 m h
  have hp : 10 ^ l.length ≤ 10 ^ 6 := Nat.pow_le_pow_right (by decide) hl
  have e : (10 : Nat) ^ 6 = 1000000 := by decide
  omega
theorem dec_six (u : Nat) (h : u ≤ 999999) : (Lib.decDigits u).length ≤ 6 := by
  have e : (10 : Nat) ^ (5 + 1) = 1000000 := by decide
  exact dec_short 5 u (by omega)
theorem plain_parsed (s : ByteArray) (hno : ∀ r, s.data.toList = 45 :: r → r = []) : Parsed s.data.toList (j1R s s) := by
  have hz : s.data.toList.length = s.size := Array.length_toList
  have hp : ∀ n : Int, -999999 ≤ n → n ≤ 999999 → Lib.itoa n = s.data.toList → (1 ≤ s.size ∧ s.size ≤ 6) ∧ Lib.decFrom 0 s.data.toList = some n.toNat ∧ 0 ≤ n := by
    intro n h0 h1 e
    unfold Lib.itoa at e
    by_cases c : n < 0
    · rw [if_pos c] at e
      obtain ⟨b, r, e2, _⟩ := dec_ne n.natAbs
      have := hno _ e.symm
      rw [e2] at this
      cases this
    · rw [if_neg c] at e
      obtain ⟨b, r, e2, _⟩ := dec_ne n.toNat
      have h6 := dec_six n.toNat (by omega)
      have hd := dec_digits n.toNat
      have h1 : 1 ≤ (Lib.decDigits n.toNat).length := by rw [e2]; simp
      rw [e] at h6 hd h1
      exact ⟨by omega, hd, by omega⟩
  unfold j1R
  by_cases c : 1 ≤ s.size ∧ s.size ≤ 6
  · rw [if_pos c]
    cases e : Lib.decFrom 0 s.data.toList with
    | none =>
      refine .inl ⟨rfl, fun n h0 h1 z => ?_⟩
      have := (hp n h0 h1 z).2.1
      rw [e] at this
      cases this
    | some m =>
      have hm := six _ m (by omega) e
      simp only [fins]
      unfold fin
      rw [if_neg (by omega)]
      by_cases g : Lib.itoa (m : Int) = s.data.toList
      · rw [if_pos g]
        exact .inr ⟨m, by omega, by omega, g, rfl⟩
      · rw [if_neg g]
        refine .inl ⟨rfl, fun n h0 h1 z => g ?_⟩
        obtain ⟨_, h2, h3⟩ := hp n h0 h1 z
        rw [e] at h2
        have := Option.some.inj h2
        rw [show (m : Int) = n by omega]
        exact z
  · rw [if_neg c]
    exact .inl ⟨rfl, fun n h0 h1 z => c (hp n h0 h1 z).1⟩
theorem minus_parsed (s t : ByteArray) (r : List UInt8) (e0 : s.data.toList = 45 :: r) (et : t.data.toList = r) : Parsed s.data.toList (j1R s t) := by
  have hz : s.data.toList.length = s.size := Array.length_toList
  have hzt : t.data.toList.length = t.size := Array.length_toList
  have hlt : t.size < s.size := by rw [← hz, ← hzt, e0, et]; simp
  have hp : ∀ n : Int, -999999 ≤ n → n ≤ 999999 → Lib.itoa n = s.data.toList → (1 ≤ t.size ∧ t.size ≤ 6) ∧ Lib.decFrom 0 t.data.toList = some n.natAbs ∧ n < 0 := by
    intro n h0 h1 e
    unfold Lib.itoa at e
    by_cases c : n < 0
    · rw [if_pos c, e0] at e
      injection e with _ e
      obtain ⟨b, r2, e2, _⟩ := dec_ne n.natAbs
      have h6 := dec_six n.natAbs (by omega)
      have hd := dec_digits n.natAbs
      have h1 : 1 ≤ (Lib.decDigits n.natAbs).length := by rw [e2]; simp
      rw [e, ← et] at h6 hd h1
      exact ⟨by omega, hd, c⟩
    · rw [if_neg c, e0] at e
      obtain ⟨b, r2, e2, h45, _⟩ := dec_ne n.toNat
      rw [e2] at e
      injection e with e _
      exact absurd (by rw [e]; rfl) h45
  unfold j1R
  by_cases c : 1 ≤ t.size ∧ t.size ≤ 6
  · rw [if_pos c]
    cases e : Lib.decFrom 0 t.data.toList with
    | none =>
      refine .inl ⟨rfl, fun n h0 h1 z => ?_⟩
      have := (hp n h0 h1 z).2.1
      rw [e] at this
      cases this
    | some m =>
      have hm := six _ m (by omega) e
      simp only [fins]
      unfold fin
      rw [if_pos hlt]
      by_cases g : Lib.itoa (-(m : Int)) = s.data.toList
      · rw [if_pos g]
        exact .inr ⟨-(m : Int), by omega, by omega, g, rfl⟩
      · rw [if_neg g]
        refine .inl ⟨rfl, fun n h0 h1 z => g ?_⟩
        obtain ⟨_, h2, h3⟩ := hp n h0 h1 z
        rw [e] at h2
        have := Option.some.inj h2
        rw [show -(m : Int) = n by omega]
        exact z
  · rw [if_neg c]
    exact .inl ⟨rfl, fun n h0 h1 z => c (hp n h0 h1 z).1⟩
theorem spec_parsed (s : ByteArray) (hs : s.size ≤ 2000000) : ∃ R, Ev (fun k => spec_ParseInt.f k s) R ∧ Parsed s.data.toList R := by
  have hz : s.data.toList.length = s.size := Array.length_toList
  unfold spec_ParseInt.f spec_l1Read.f
  by_cases c : (s.size : Int) > 1
  · have hl : 0 < s.data.toList.length := by omega
    have hb := bt_get s 0 hl
    obtain ⟨b, r, e⟩ : ∃ b r, s.data.toList = b :: r := by
      cases e : s.data.toList with
      | nil => rw [e] at hl; simp at hl
      | cons b r => exact ⟨b, r, rfl⟩
    have hb2 : bt s 0 = (b.toNat : Int) := by
      have : bt s ((0 : Nat) : Int) = ((s.data.toList[0]).toNat : Int) := hb
      simp only [e, List.getElem_cons_zero] at this
      exact this
    by_cases d : b.toNat = 45
    · have e45 : b = 45 := UInt8.toNat_inj.1 d
      subst e45
      have et : (s.extract 1 s.size).data.toList = r := by rw [Lib.extract_to_end, e]; rfl
      have hts : (s.extract 1 s.size).size ≤ 2000000 := by
        have h3 : (s.extract 1 s.size).data.toList.length = (s.extract 1 s.size).size := Array.length_toList
        have h4 : (s.data.toList).length = r.length + 1 := by rw [e]; rfl
        rw [← h3, et]
        omega
      refine ⟨j1R s (s.extract 1 s.size), ev_bind (ev_ifp c (ev_ifp (by omega) (ev_succ ?_))) (ev_now rfl), minus_parsed s _ r e et⟩
      simp only [spec_l1Read.j0]
      exact ev_ifp (by rw [hb2]; rfl) (ev_ifp (by omega) (j1_ev s _ hts))
    · refine ⟨j1R s s, ev_bind (ev_ifp c (ev_ifp (by omega) (ev_succ ?_))) (ev_now rfl), plain_parsed s (fun r2 e2 => ?_)⟩
      · simp only [spec_l1Read.j0]
        exact ev_ifn (by rw [hb2, beq_iff_eq]; omega) (j1_ev s s hs)
      · rw [e] at e2
        injection e2 with e3 _
        exact absurd (by rw [e3]; rfl) d
  · refine ⟨j1R s s, ev_bind (ev_ifn c (ev_succ ?_)) (ev_now rfl), plain_parsed s (fun r2 e2 => ?_)⟩
    · simp only [spec_l1Read.j0]
      exact ev_ifn (by simp) (j1_ev s s hs)
    · cases r2 with
      | nil => rfl
      | cons a r3 =>
        have := congrArg List.length e2
        simp only [List.length_cons] at this
        omega

/-! LAW FnExactParseInt -/
theorem FnExactParseInt (s : ByteArray) (_ : s.size ≤ maxLen) : ∃ k, laws_FnExactParseInt.f k s = some true := by
  suffices h : Ev (fun k => laws_FnExactParseInt.f k s) true from by
    obtain ⟨m, hm⟩ := h
    exact ⟨m, hm m (Nat.le_refl _)⟩
  unfold laws_FnExactParseInt.f
  by_cases c0 : (s.size : Int) > 1048576
  · exact ev_ifp c0 (ev_now rfl)
  refine ev_ifn c0 ?_
  obtain ⟨R, hR, pR⟩ := impl_parsed s
  obtain ⟨S, hS, pS⟩ := spec_parsed s (by omega)
  obtain rfl := pR.one pS
  refine ev_bind hS ?_
  rw [hR]
  simp only [Option.bind_some]
  exact ev_ifp (by simp) (ev_ifn (by simp) (ev_now rfl))

end Go.Proofs.YtbdbogpmnmcaeaaDoor.Pure
