/- Small lemmas over the print's word 'Ev' (from some number of rounds on), whole numbers that fit, and lists: no condition but those that each lemma names. -/
import Derived.Test.YtbdbogpmnmcaeaaDoorWWords
import Derived.Test.YtbdbogpmnmcaeaaDoorWSized
namespace Go.Proofs.YtbdbogpmnmcaeaaDoor.Base
open Go.RowKit Go.Proofs.YtbdbogpmnmcaeaaDoorW.PrintWords

theorem ev_succ {α : Type} {g : Nat → Option α} {r : α} (h : Ev (fun k => g (k + 1)) r) : Ev g r := Ev.step (fun _ => rfl) h
theorem ev_now {α : Type} {r s : α} (h : r = s) : Ev (fun _ => some r) s := h ▸ Ev.now r
theorem ev_to {α : Type} {g : Nat → Option α} {r s : α} (h : Ev g r) (e : r = s) : Ev g s := e ▸ h
theorem ev_plain {α : Type} {o : Option α} {r : α} (h : o = some r) : Ev (fun _ => o) r := ⟨0, fun _ _ => h⟩
theorem ev_bind {α β : Type} {g : Nat → Option α} {f : Nat → α → Option β} {a : α} {r : β} (h : Ev g a) (k : Ev (fun n => f n a) r) : Ev (fun n => (g n).bind (f n)) r := Ev.bind h k
theorem ev_ifp {α : Type} {c : Prop} [Decidable c] {a b : Nat → Option α} {r : α} (h : c) (k : Ev a r) : Ev (fun n => if c then a n else b n) r := by simpa [h] using k
theorem ev_ifn {α : Type} {c : Prop} [Decidable c] {a b : Nat → Option α} {r : α} (h : ¬ c) (k : Ev b r) : Ev (fun n => if c then a n else b n) r := by simpa [h] using k

theorem w64 {x : Int} (h1 : -9223372036854775808 ≤ x) (h2 : x ≤ 9223372036854775807) : wrap64 x = x := by
  unfold wrap64
  omega

/-- How a whole number of an argument is bounded. -/
theorem wf_i64 {x : Int} (h : (Lit.int .i64 x).wf = true) : -9223372036854775808 ≤ x ∧ x ≤ 9223372036854775807 := by
  simp [Lit.wf, IntKind.min, IntKind.max, IntKind.signed, IntKind.bits] at h
  omega

theorem rd_nat (l : List Int) (i : Nat) : rd l (i : Int) = l.getD i 0 := by simp [rd]
theorem rd_get (l : List Int) (i : Nat) (h : i < l.length) : rd l (i : Int) = l[i] := by simp [rd, List.getD_eq_getElem?_getD, h]
theorem rd_mem (l : List Int) (i : Nat) (h : i < l.length) : rd l (i : Int) ∈ l := by rw [rd_get l i h]; exact List.getElem_mem h
theorem rd_cons_succ (x : Int) (l : List Int) (i : Nat) : rd (x :: l) ((i + 1 : Nat) : Int) = rd l (i : Int) := by simp [rd]
theorem take_succ_rd (l : List Int) (i : Nat) (h : i < l.length) : l.take (i + 1) = l.take i ++ [rd l (i : Int)] := by
  rw [List.take_succ_eq_append_getElem h, rd_get l i h]
theorem drop_rd (l : List Int) (i : Nat) (h : i < l.length) : l.drop i = rd l (i : Int) :: l.drop (i + 1) := by
  rw [List.drop_eq_getElem_cons h, rd_get l i h]
theorem sum_take_succ (l : List Int) (i : Nat) (h : i < l.length) : (l.take (i + 1)).sum = (l.take i).sum + rd l (i : Int) := by
  rw [take_succ_rd l i h, List.sum_append]; simp
theorem sum_bound (l : List Int) (lo hi : Int) (h : ∀ x ∈ l, lo ≤ x ∧ x ≤ hi) : lo * l.length ≤ l.sum ∧ l.sum ≤ hi * l.length := by
  induction l with
  | nil => simp
  | cons a t ih =>
    have ha := h a (by simp)
    have ht := ih (fun x hx => h x (by simp [hx]))
    simp only [List.sum_cons, List.length_cons, Int.natCast_add, Int.natCast_one, Int.mul_add, Int.mul_one]
    omega
/-- Bounds of a part's sum. -/
theorem sum_take_bound (l : List Int) (i : Nat) (hi : Int) (h : ∀ x ∈ l, 0 ≤ x ∧ x ≤ hi) (n : Nat) (hn : l.length ≤ n) (h0 : 0 ≤ hi) : 0 ≤ (l.take i).sum ∧ (l.take i).sum ≤ hi * n := by
  have hb := sum_bound (l.take i) 0 hi (fun x hx => h x (List.mem_of_mem_take hx))
  have hl : ((l.take i).length : Int) ≤ n := by
    have := List.length_take_le' i l
    omega
  have := Int.mul_le_mul_of_nonneg_left hl h0
  omega

/-- m, m + 1, .., n numbers. -/
def up (m : Int) : Nat → List Int
  | 0 => []
  | n + 1 => m :: up (m + 1) n
theorem up_length (m : Int) (n : Nat) : (up m n).length = n := by
  induction n generalizing m with
  | zero => rfl
  | succ n ih => simp [up, ih]
theorem up_get (m : Int) (n i : Nat) (h : i < n) : (up m n)[i]? = some (m + i) := by
  induction n generalizing m i with
  | zero => omega
  | succ n ih =>
    cases i with
    | zero => simp [up]
    | succ i => simp only [up, List.getElem?_cons_succ]; rw [ih (m + 1) i (by omega)]; congr 1; omega
theorem up_rd (m : Int) (n i : Nat) (h : i < n) : rd (up m n) (i : Int) = m + i := by
  simp [rd, List.getD_eq_getElem?_getD, up_get m n i h]
/-- A list that is told place by place. -/
theorem eq_of_get {l m : List Int} (hl : l.length = m.length) (h : ∀ j, j < l.length → l[j]? = m[j]?) : l = m := by
  apply List.ext_getElem?
  intro j
  by_cases hj : j < l.length
  · exact h j hj
  · rw [List.getElem?_eq_none (by omega), List.getElem?_eq_none (by omega)]
theorem set_get (l : List Int) (i j : Nat) (v : Int) (hi : i < l.length) : (l.set i v)[j]? = if j = i then some v else l[j]? := by
  by_cases h : j = i
  · subst h; simp [hi]
  · rw [if_neg h, List.getElem?_set_ne (Ne.symm h)]
theorem get_rd (l : List Int) (i : Nat) (h : i < l.length) : l[i]? = some (rd l (i : Int)) := by rw [rd_get l i h]; simp [h]

end Go.Proofs.YtbdbogpmnmcaeaaDoor.Base

/-- The name under which the printed row asks for the word (the words are this seat's own texts: their namespace bears the seat's name). -/
theorem Go.Proofs.YtbdbogpmnmcaeaaDoor.PrintWords.sized_ints : type_of% @Go.Proofs.YtbdbogpmnmcaeaaDoorW.PrintWords.sized_ints := @Go.Proofs.YtbdbogpmnmcaeaaDoorW.PrintWords.sized_ints
