/- The pure statement of the law FnExactBestOrders: what the program's function answers is what the reference answers, for all arguments of the kinds of its parameters. -/
import Derived.Test.YtnojmhcmngejnaaQFnExactBestOrdersx4
import Derived.Test.YtnojmhcmngejnaaBase
namespace Go.Proofs.Ytnojmhcmngejnaa.Pure
set_option linter.unusedSimpArgs false
open Go.RowKit Go.Proofs.Ytnojmhcmngejnaa.PFnExactBestOrders Go.Proofs.YtnojmhcmngejnaaW.PrintWords Go.Proofs.YtnojmhcmngejnaaW.PrintLast Go.Proofs.Ytnojmhcmngejnaa.Base

/-! toIntS -/
theorem toIntS_l0 (l acc : List Int) (i : Nat) (hi : i ≤ l.length) (hl : l.length ≤ 2000000) (ha : acc.length = l.length) (hg : ∀ j, j < i → acc[j]? = l[j]?) :
    Ev (fun k => laws_toIntS.l0 k l acc (i : Int)) l := by
  refine ev_succ ?_
  by_cases h : i < l.length
  · simp (disch := omega) only [laws_toIntS.l0, if_pos, w64, Int.toNat_natCast]
    refine toIntS_l0 l (acc.set i (rd l i)) (i + 1) (by omega) hl (by simpa using ha) (fun j hj => ?_)
    rw [set_get _ _ _ _ (by omega)]
    by_cases e : j = i
    · subst e; rw [if_pos rfl, get_rd l j h]
    · rw [if_neg e]; exact hg j (by omega)
  · simp (disch := omega) only [laws_toIntS.l0, if_neg]
    exact ev_now (eq_of_get ha fun j hj => hg j (by omega))
 termination_by l.length - i
theorem toIntS_ev (l : List Int) (hl : l.length ≤ 2000000) : Ev (fun k => laws_toIntS.f k l) l := by
  simp (disch := omega) only [laws_toIntS.f, if_pos, Int.toNat_natCast]
  exact toIntS_l0 l _ 0 (by omega) hl (by simp) (fun j hj => by omega)

/-! eqIntS -/
theorem eqIntS_l0 (l : List Int) (i : Nat) (hi : i ≤ l.length) (hl : l.length ≤ 2000000) : Ev (fun k => laws_eqIntS.l0 k l l (i : Int)) true := by
  refine ev_succ ?_
  by_cases h : i < l.length
  · simp (disch := omega) only [laws_eqIntS.l0, if_pos, w64]
    exact eqIntS_l0 l (i + 1) (by omega) hl
  · simp (disch := omega) only [laws_eqIntS.l0, if_neg]
    exact ev_now rfl
 termination_by l.length - i
theorem eqIntS_ev (l : List Int) (hl : l.length ≤ 2000000) : Ev (fun k => laws_eqIntS.f k l l) true := by
  simp (disch := omega) only [laws_eqIntS.f, if_pos]
  exact eqIntS_l0 l 0 (by omega) hl

/-! markIntS -/
theorem markIntS_l0 (l : List Int) (m : Int) (i : Nat) (acc : List Int) (hm : 0 ≤ m) (hm2 : m ≤ 100000000) (hi : i ≤ l.length) (hl : l.length ≤ 2000000) (ha : acc.length = l.length) (hg : ∀ j, j < i → acc[j]? = (up m l.length)[j]?) :
    Ev (fun k => laws_markIntS.l0 k acc (m + i) (i : Int)) (m + l.length, up m l.length) := by
  refine ev_succ ?_
  by_cases h : i < l.length
  · simp (disch := omega) only [laws_markIntS.l0, if_pos, w64, Int.toNat_natCast]
    rw [show m + (i : Int) + 1 = m + ((i + 1 : Nat) : Int) by omega, show (i : Int) + 1 = ((i + 1 : Nat) : Int) by omega]
    refine markIntS_l0 l m (i + 1) (acc.set i (m + i)) hm hm2 (by omega) hl (by simpa using ha) (fun j hj => ?_)
    rw [set_get _ _ _ _ (by omega)]
    by_cases e : j = i
    · subst e; rw [if_pos rfl, up_get m _ _ h]
    · rw [if_neg e]; exact hg j (by omega)
  · simp (disch := omega) only [laws_markIntS.l0, if_neg]
    obtain rfl : i = l.length := by omega
    exact ev_now (by rw [eq_of_get (m := up m l.length) (by rw [up_length, ha]) (fun j hj => hg j (by omega))])
 termination_by l.length - i
theorem markIntS_ev (l : List Int) (m : Int) (hm : 0 ≤ m) (hm2 : m ≤ 100000000) (hl : l.length ≤ 2000000) : Ev (fun k => laws_markIntS.f k l m) (m + l.length, up m l.length) := by
  have h := markIntS_l0 l m 0 l hm hm2 (by omega) hl rfl (fun j hj => by omega)
  simpa [laws_markIntS.f] using h

/-! heldIntS -/
theorem heldIntS_l0 (n : Nat) (m : Int) (i : Nat) (hm : 0 ≤ m) (hm2 : m ≤ 100000000) (hi : i ≤ n) (hl : n ≤ 2000000) :
    Ev (fun k => laws_heldIntS.l0 k (up m n) (m + i) (i : Int)) (m + n) := by
  refine ev_succ ?_
  by_cases h : i < n
  · simp (disch := omega) only [laws_heldIntS.l0, up_length, if_pos, w64, up_rd m n i h]
    rw [show m + (i : Int) + 1 = m + ((i + 1 : Nat) : Int) by omega, show (i : Int) + 1 = ((i + 1 : Nat) : Int) by omega]
    exact heldIntS_l0 n m (i + 1) hm hm2 (by omega) hl
  · simp (disch := omega) only [laws_heldIntS.l0, up_length, if_neg]
    obtain rfl : i = n := by omega
    exact ev_now rfl
 termination_by n - i
theorem heldIntS_ev (n : Nat) (m : Int) (hm : 0 ≤ m) (hm2 : m ≤ 100000000) (hl : n ≤ 2000000) : Ev (fun k => laws_heldIntS.f k (up m n) m) (m + n) := by
  have h := heldIntS_l0 n m 0 hm hm2 (by omega) hl
  simpa [laws_heldIntS.f] using h

/-! Dist -/
/-- A list of numbers that is a distribution. -/
def Dist (l : List Int) : Prop := (1 ≤ l.length ∧ l.length ≤ 16) ∧ (∀ x ∈ l, 0 ≤ x ∧ x ≤ 1000) ∧ 0 < l.sum
instance (l : List Int) : Decidable (Dist l) := by unfold Dist; infer_instance

/-! cum -/
/-- The sum of the weights of all demands up to q. -/
def cum (l : List Int) (q : Int) : Int := (l.take (q + 1).toNat).sum
theorem dist_len {l : List Int} (h : Dist l) : 1 ≤ l.length ∧ l.length ≤ 16 := h.1
theorem dist_small {l : List Int} (h : Dist l) : ∀ x ∈ l, 0 ≤ x ∧ x ≤ 1000000000 := fun x hx => by have := h.2.1 x hx; omega
theorem dist_cum {l : List Int} (h : Dist l) (q : Int) : 0 ≤ cum l q ∧ cum l q ≤ 16000 := by
  have := sum_take_bound l (q + 1).toNat 1000 h.2.1 16 h.1.2 (by omega)
  unfold cum; omega
theorem dist_sum {l : List Int} (h : Dist l) : 0 < l.sum ∧ l.sum ≤ 16000 := by
  have := sum_take_bound l l.length 1000 h.2.1 16 h.1.2 (by omega)
  rw [List.take_of_length_le (Nat.le_refl _)] at this
  have := h.2.2
  omega
theorem cum_all {l : List Int} (q : Int) (h : (l.length : Int) ≤ q + 1) : cum l q = l.sum := by
  unfold cum; rw [List.take_of_length_le (by omega)]

/-! Chg -/
def Chg (o u : Int) : Prop := (0 ≤ o ∧ o ≤ 20) ∧ (0 ≤ u ∧ u ≤ 20)
instance (o u : Int) : Decidable (Chg o u) := by unfold Chg; infer_instance

/-! critGo -/
def critGo (l : List Int) (o u : Int) : Nat → Int → Int
  | 0, q => q
  | d + 1, q => if (o + u) * cum l q < u * l.sum then critGo l o u d (q + 1) else q
theorem mul_bd {x y A B : Int} (hx : 0 ≤ x ∧ x ≤ A) (hy : 0 ≤ y ∧ y ≤ B) : 0 ≤ x * y ∧ x * y ≤ A * B :=
  ⟨Int.mul_nonneg hx.1 hy.1, Int.mul_le_mul hx.2 hy.2 hy.1 (by omega)⟩
theorem crit_end (l : List Int) (o u : Int) (h : Dist l) (hc : Chg o u) : ¬ (o + u) * cum l 15 < u * l.sum := by
  have hl := dist_len h
  have hs := dist_sum h
  rw [cum_all 15 (by omega), Int.add_mul]
  have := Int.mul_nonneg hc.1.1 (show 0 ≤ l.sum by omega)
  omega
theorem critGo_le (l : List Int) (o u : Int) (d : Nat) : ∀ q, q ≤ critGo l o u d q ∧ critGo l o u d q ≤ q + d := by
  induction d with
  | zero => intro q; simp [critGo]
  | succ d ih =>
    intro q
    unfold critGo
    split
    · have := ih (q + 1); omega
    · omega

/-! overAcc -/
/-- The over sum of an order q, the short sum, of the first i demands. -/
def overAcc (l : List Int) (q : Int) : Nat → Int
  | 0 => 0
  | i + 1 => overAcc l q i + rd l (i : Int) * mx 0 (q - i)
def shortAcc (l : List Int) (q : Int) : Nat → Int
  | 0 => 0
  | i + 1 => shortAcc l q i + rd l (i : Int) * mx 0 (i - q)
def overR (l : List Int) (q : Int) : Int := overAcc l q l.length
def shortR (l : List Int) (q : Int) : Int := shortAcc l q l.length
theorem mx0_bd (x A : Int) (h : x ≤ A) (hA : 0 ≤ A) : 0 ≤ mx 0 x ∧ mx 0 x ≤ A := by
  unfold mx; split <;> omega
theorem dist_rd {l : List Int} (h : Dist l) (i : Nat) (hi : i < l.length) : 0 ≤ rd l (i : Int) ∧ rd l (i : Int) ≤ 1000 := h.2.1 _ (rd_mem l i hi)
theorem mul_bd0 {x y A B : Int} (hx : 0 ≤ x ∧ x ≤ A) (hy : 0 ≤ y ∧ y ≤ B) : 0 ≤ x * y ∧ x * y ≤ A * B :=
  ⟨Int.mul_nonneg hx.1 hy.1, Int.mul_le_mul hx.2 hy.2 hy.1 (by omega)⟩
theorem over_term {l : List Int} (h : Dist l) (q : Int) (hq : q ≤ 100) (i : Nat) (hi : i < l.length) : 0 ≤ rd l (i : Int) * mx 0 (q - i) ∧ rd l (i : Int) * mx 0 (q - i) ≤ 1000 * 100 :=
  mul_bd0 (dist_rd h i hi) (mx0_bd _ 100 (by omega) (by omega))
theorem short_term {l : List Int} (h : Dist l) (q : Int) (hq : 0 ≤ q) (i : Nat) (hi : i < l.length) : 0 ≤ rd l (i : Int) * mx 0 (i - q) ∧ rd l (i : Int) * mx 0 (i - q) ≤ 1000 * 100 :=
  mul_bd0 (dist_rd h i hi) (mx0_bd _ 100 (by have := h.1; omega) (by omega))
theorem overAcc_bd {l : List Int} (h : Dist l) (q : Int) (hq : q ≤ 100) (i : Nat) (hi : i ≤ l.length) : 0 ≤ overAcc l q i ∧ overAcc l q i ≤ 100000 * i := by
  induction i with
  | zero => simp [overAcc]
  | succ i ih =>
    have a := ih (by omega)
    have b := over_term h q hq i (by omega)
    simp only [overAcc]; omega
theorem shortAcc_bd {l : List Int} (h : Dist l) (q : Int) (hq : 0 ≤ q) (i : Nat) (hi : i ≤ l.length) : 0 ≤ shortAcc l q i ∧ shortAcc l q i ≤ 100000 * i := by
  induction i with
  | zero => simp [shortAcc]
  | succ i ih =>
    have a := ih (by omega)
    have b := short_term h q hq i (by omega)
    simp only [shortAcc]; omega
theorem overR_bd {l : List Int} (h : Dist l) (q : Int) (hq : q ≤ 100) : 0 ≤ overR l q ∧ overR l q ≤ 1600000 := by
  have := overAcc_bd h q hq l.length (Nat.le_refl _)
  have := h.1
  unfold overR; omega
theorem shortR_bd {l : List Int} (h : Dist l) (q : Int) (hq : 0 ≤ q) : 0 ≤ shortR l q ∧ shortR l q ≤ 1600000 := by
  have := shortAcc_bd h q hq l.length (Nat.le_refl _)
  have := h.1
  unfold shortR; omega

/-! costR -/
/-- The cost sum of an order. -/
def costR (l : List Int) (o u q : Int) : Int := o * overR l q + u * shortR l q
theorem cost_parts {l : List Int} {o u : Int} (h : Dist l) (hc : Chg o u) (q : Int) (h0 : 0 ≤ q) (h1 : q ≤ 100) : (0 ≤ o * overR l q ∧ o * overR l q ≤ 20 * 1600000) ∧ (0 ≤ u * shortR l q ∧ u * shortR l q ≤ 20 * 1600000) :=
  ⟨mul_bd0 hc.1 (overR_bd h q h1), mul_bd0 hc.2 (shortR_bd h q h0)⟩

/-! critMin -/
/-- The sum of the weights of the demands up to q among the first n. -/
def cumAcc (l : List Int) (q : Int) : Nat → Int
  | 0 => 0
  | i + 1 => cumAcc l q i + if (i : Int) ≤ q then rd l (i : Int) else 0
theorem cumAcc_take (l : List Int) (q : Int) (h0 : 0 ≤ q) (n : Nat) (hn : n ≤ l.length) : cumAcc l q n = (l.take (min n (q + 1).toNat)).sum := by
  induction n with
  | zero => simp [cumAcc]
  | succ n ih =>
    simp only [cumAcc]
    rw [ih (by omega)]
    by_cases c : (n : Int) ≤ q
    · rw [if_pos c, show min n (q + 1).toNat = n by omega, show min (n + 1) (q + 1).toNat = n + 1 by omega, sum_take_succ l n (by omega)]
    · rw [if_neg c, show min n (q + 1).toNat = (q + 1).toNat by omega, show min (n + 1) (q + 1).toNat = (q + 1).toNat by omega]; omega
theorem cumAcc_cum (l : List Int) (q : Int) (h0 : 0 ≤ q) : cumAcc l q l.length = cum l q := by
  rw [cumAcc_take l q h0 _ (Nat.le_refl _)]
  unfold cum
  by_cases c : (q + 1).toNat ≤ l.length
  · rw [show min l.length (q + 1).toNat = (q + 1).toNat by omega]
  · rw [show min l.length (q + 1).toNat = l.length by omega, List.take_of_length_le (Nat.le_refl _), List.take_of_length_le (by omega)]
theorem overAcc_next (l : List Int) (q : Int) (n : Nat) : overAcc l (q + 1) n = overAcc l q n + cumAcc l q n := by
  induction n with
  | zero => rfl
  | succ n ih =>
    simp only [overAcc, cumAcc]
    rw [ih]
    by_cases c : (n : Int) ≤ q
    · rw [if_pos c, show mx 0 (q + 1 - (n : Int)) = mx 0 (q - n) + 1 by unfold mx; split <;> split <;> omega, Int.mul_add]; omega
    · rw [if_neg c, show mx 0 (q + 1 - (n : Int)) = mx 0 (q - n) by unfold mx; split <;> split <;> omega]; omega
theorem shortAcc_next (l : List Int) (q : Int) (n : Nat) (hn : n ≤ l.length) : shortAcc l q n = shortAcc l (q + 1) n + ((l.take n).sum - cumAcc l q n) := by
  induction n with
  | zero => rfl
  | succ n ih =>
    simp only [shortAcc, cumAcc]
    rw [ih (by omega), sum_take_succ l n (by omega)]
    by_cases c : (n : Int) ≤ q
    · rw [if_pos c, show mx 0 ((n : Int) - (q + 1)) = mx 0 (n - q) by unfold mx; split <;> split <;> omega]; omega
    · rw [if_neg c, show mx 0 ((n : Int) - q) = mx 0 (n - (q + 1)) + 1 by unfold mx; split <;> split <;> omega, Int.mul_add]; omega
/-- What one unit more costs. -/
theorem cost_next (l : List Int) (o u q : Int) (h0 : 0 ≤ q) : costR l o u (q + 1) = costR l o u q + ((o + u) * cum l q - u * l.sum) := by
  have a := overAcc_next l q l.length
  have b := shortAcc_next l q l.length (Nat.le_refl _)
  rw [cumAcc_cum l q h0] at a b
  rw [List.take_of_length_le (Nat.le_refl _)] at b
  have b' : shortR l (q + 1) = shortR l q - (l.sum - cum l q) := by unfold shortR; omega
  have a' : overR l (q + 1) = overR l q + cum l q := a
  unfold costR
  rw [a', b', Int.mul_add, Int.mul_sub, Int.mul_sub, Int.add_mul]
  omega
theorem cum_mono {l : List Int} (h : Dist l) (q : Int) (h0 : 0 ≤ q) : cum l q ≤ cum l (q + 1) := by
  unfold cum
  rw [show (q + 1 + 1).toNat = (q + 1).toNat + 1 by omega]
  by_cases c : (q + 1).toNat < l.length
  · rw [sum_take_succ l _ c]
    have := dist_rd h _ c
    omega
  · rw [List.take_of_length_le (by omega), List.take_of_length_le (by omega)]; omega
theorem critGo_spec (l : List Int) (o u : Int) (h : Dist l) (hc : Chg o u) (d : Nat) : ∀ q : Int, 0 ≤ q → q + d = 15 → (∀ x, 0 ≤ x → x < q → (o + u) * cum l x < u * l.sum) →
    (∀ x, 0 ≤ x → x < critGo l o u d q → (o + u) * cum l x < u * l.sum) ∧ ¬ (o + u) * cum l (critGo l o u d q) < u * l.sum := by
  induction d with
  | zero =>
    intro q h0 h1 hx
    obtain rfl : q = 15 := by omega
    exact ⟨hx, crit_end l o u h hc⟩
  | succ d ih =>
    intro q h0 h1 hx
    unfold critGo
    by_cases c : (o + u) * cum l q < u * l.sum
    · rw [if_pos c]
      refine ih (q + 1) (by omega) (by omega) (fun x a b => ?_)
      by_cases e : x = q
      · rw [e]; exact c
      · exact hx x a (by omega)
    · rw [if_neg c]; exact ⟨hx, c⟩
/-- The critical order has the least cost sum. -/
theorem crit_min (l : List Int) (o u : Int) (h : Dist l) (hc : Chg o u) : ∀ q : Int, 0 ≤ q → costR l o u (critGo l o u 15 0) ≤ costR l o u q := by
  have sp := critGo_spec l o u h hc 15 0 (by omega) (by omega) (fun x a b => by omega)
  have le := critGo_le l o u 15 0
  generalize critGo l o u 15 0 = m at sp le
  have up : ∀ d : Nat, costR l o u m ≤ costR l o u (m + d) ∧ u * l.sum ≤ (o + u) * cum l (m + d) := by
    intro d
    induction d with
    | zero => simp only [Int.natCast_zero, Int.add_zero]; exact ⟨Int.le_refl _, by omega⟩
    | succ d ih =>
      have e : m + ((d + 1 : Nat) : Int) = m + (d : Int) + 1 := by omega
      have nx := cost_next l o u (m + (d : Int)) (by omega)
      have mono := cum_mono h (m + (d : Int)) (by omega)
      have := Int.mul_le_mul_of_nonneg_left mono (show 0 ≤ o + u by have := hc.1; have := hc.2; omega)
      rw [e]; omega
  have down : ∀ d : Nat, (d : Int) ≤ m → costR l o u m ≤ costR l o u (m - d) := by
    intro d
    induction d with
    | zero => intro _; simp
    | succ d ih =>
      intro hd
      have a := ih (by omega)
      have nx := cost_next l o u (m - ((d + 1 : Nat) : Int)) (by omega)
      have lt := sp.1 (m - ((d + 1 : Nat) : Int)) (by omega) (by omega)
      rw [show m - ((d + 1 : Nat) : Int) + 1 = m - (d : Int) by omega] at nx
      omega
  intro q h0
  by_cases c : m ≤ q
  · have := (up (q - m).toNat).1
    rwa [show m + (((q - m).toNat : Nat) : Int) = q by omega] at this
  · have := down (m - q).toNat (by omega)
    rwa [show m - (((m - q).toNat : Nat) : Int) = q by omega] at this

/-! filtGo -/
/-- acc, and behind it each t + o, in order, that a test takes, of d numbers from t on. -/
def filtGo (P : Nat → Prop) [DecidablePred P] (o : Nat) : Nat → Nat → List Int → List Int
  | 0, _, acc => acc
  | d + 1, t, acc => filtGo P o d (t + 1) (if P t then acc ++ [((t + o : Nat) : Int)] else acc)
theorem filtGo_len (P : Nat → Prop) [DecidablePred P] (o : Nat) (d : Nat) : ∀ t acc, (filtGo P o d t acc).length ≤ acc.length + d := by
  induction d with
  | zero => intro t acc; simp [filtGo]
  | succ d ih =>
    intro t acc
    unfold filtGo
    have := ih (t + 1) (if P t then acc ++ [((t + o : Nat) : Int)] else acc)
    have e : (if P t then acc ++ [((t + o : Nat) : Int)] else acc).length ≤ acc.length + 1 := by split <;> simp
    omega

/-! filtMore -/
theorem filtGo_snoc (P : Nat → Prop) [DecidablePred P] (o : Nat) (d : Nat) : ∀ t acc, filtGo P o (d + 1) t acc = if P (t + d) then filtGo P o d t acc ++ [((t + d + o : Nat) : Int)] else filtGo P o d t acc := by
  induction d with
  | zero => intro t acc; simp [filtGo]
  | succ d ih =>
    intro t acc
    have := ih (t + 1) (if P t then acc ++ [((t + o : Nat) : Int)] else acc)
    rw [show t + 1 + d = t + (d + 1) by omega] at this
    exact this
theorem filtGo_none (P : Nat → Prop) [DecidablePred P] (o : Nat) (d : Nat) : ∀ t acc, (∀ q, t ≤ q → q < t + d → ¬ P q) → filtGo P o d t acc = acc := by
  induction d with
  | zero => intro t acc _; rfl
  | succ d ih =>
    intro t acc h
    unfold filtGo
    rw [if_neg (h t (Nat.le_refl _) (by omega))]
    exact ih (t + 1) acc (fun q h1 h2 => h q (by omega) (by omega))

/-! bestP -/
def bestP (l : List Int) (o u : Int) (t : Nat) : Prop := costR l o u (t : Int) = costR l o u (critGo l o u 15 0)
instance (l : List Int) (o u : Int) : DecidablePred (bestP l o u) := fun t => by unfold bestP; infer_instance
def BestOrdersR (l : List Int) (o u : Int) : List Int × Bool := if Dist l ∧ Chg o u then (filtGo (bestP l o u) 0 16 0 [], true) else ([], false)
theorem BestOrdersR_len (l : List Int) (o u : Int) : (BestOrdersR l o u).1.length ≤ 2000 := by
  unfold BestOrdersR; split
  · show (filtGo (bestP l o u) 0 16 0 []).length ≤ 2000
    have := filtGo_len (bestP l o u) 0 16 0 []
    simp at this; omega
  · simp

/-! overSum -/
theorem overSum_l0 (l : List Int) (h : Dist l) (q : Int) (h0 : 0 ≤ q) (h1 : q ≤ 100) (d : Nat) : ∀ i : Nat, i + d = l.length → Ev (fun k => impl_overSum.l0 k l q (overAcc l q i) (i : Int)) (overR l q) := by
  have hl := h.1
  induction d with
  | zero =>
    intro i hi
    obtain rfl : i = l.length := by omega
    refine ev_succ ?_
    simp (disch := omega) only [impl_overSum.l0, if_neg]
    exact ev_now rfl
  | succ d ih =>
    intro i hi
    have a := overAcc_bd h q h1 i (by omega)
    have b := over_term h q h1 i (by omega)
    refine ev_succ ?_
    simp only [impl_overSum.l0]
    rw [w64 (x := q - (i : Int)) (by omega) (by omega), w64 (x := rd l (i : Int) * mx 0 (q - i)) (by omega) (by omega), w64 (x := overAcc l q i + rd l (i : Int) * mx 0 (q - i)) (by omega) (by omega), w64 (x := (i : Int) + 1) (by omega) (by omega)]
    exact ev_ifp (by omega) (ev_ifp (by omega) (ih (i + 1) (by omega)))
theorem overSum_ev (l : List Int) (h : Dist l) (q : Int) (h0 : 0 ≤ q) (h1 : q ≤ 100) : Ev (fun k => impl_overSum.f k l q) (overR l q) :=
  overSum_l0 l h q h0 h1 l.length 0 (by omega)

/-! shortSum -/
theorem shortSum_l0 (l : List Int) (h : Dist l) (q : Int) (h0 : 0 ≤ q) (h1 : q ≤ 100) (d : Nat) : ∀ i : Nat, i + d = l.length → Ev (fun k => impl_shortSum.l0 k l q (shortAcc l q i) (i : Int)) (shortR l q) := by
  have hl := h.1
  induction d with
  | zero =>
    intro i hi
    obtain rfl : i = l.length := by omega
    refine ev_succ ?_
    simp (disch := omega) only [impl_shortSum.l0, if_neg]
    exact ev_now rfl
  | succ d ih =>
    intro i hi
    have a := shortAcc_bd h q h0 i (by omega)
    have b := short_term h q h0 i (by omega)
    refine ev_succ ?_
    simp only [impl_shortSum.l0]
    rw [w64 (x := (i : Int) - q) (by omega) (by omega), w64 (x := rd l (i : Int) * mx 0 (i - q)) (by omega) (by omega), w64 (x := shortAcc l q i + rd l (i : Int) * mx 0 (i - q)) (by omega) (by omega), w64 (x := (i : Int) + 1) (by omega) (by omega)]
    exact ev_ifp (by omega) (ev_ifp (by omega) (ih (i + 1) (by omega)))
theorem shortSum_ev (l : List Int) (h : Dist l) (q : Int) (h0 : 0 ≤ q) (h1 : q ≤ 100) : Ev (fun k => impl_shortSum.f k l q) (shortR l q) :=
  shortSum_l0 l h q h0 h1 l.length 0 (by omega)

/-! costSum -/
theorem costSum_ev (l : List Int) (h : Dist l) (o u : Int) (hc : Chg o u) (q : Int) (h0 : 0 ≤ q) (h1 : q ≤ 100) : Ev (fun k => impl_costSum.f k l o u q) (costR l o u q) := by
  have b := cost_parts h hc q h0 h1
  unfold impl_costSum.f
  refine ev_bind (overSum_ev l h q h0 h1) (ev_bind (shortSum_ev l h q h0 h1) (ev_now ?_))
  rw [w64 (x := o * overR l q) (by omega) (by omega), w64 (x := u * shortR l q) (by omega) (by omega), w64 (by omega) (by omega)]; rfl

/-! within -/
theorem within_eq (a b c : Int) : impl_within.f a b c = some (decide (b ≤ a ∧ a ≤ c)) := by
  unfold impl_within.f
  by_cases h : a ≥ b
  · rw [if_pos h]; congr 1; rw [decide_eq_decide]; omega
  · rw [if_neg h]; congr 1; symm; rw [decide_eq_false_iff_not]; omega

/-! allWithin -/
theorem allWithin_l0 (l : List Int) (lo hi : Int) (i : Nat) (h1 : i ≤ l.length) (hl : l.length ≤ 2000000) :
    Ev (fun k => impl_allWithin.l0 k lo hi l (l.length : Int) (i : Int)) (decide (∀ x ∈ l.drop i, lo ≤ x ∧ x ≤ hi)) := by
  refine ev_succ ?_
  by_cases h : i < l.length
  · simp (disch := omega) only [impl_allWithin.l0, if_pos, within_eq, Option.bind_some, w64]
    rw [drop_rd l i h]
    by_cases c : lo ≤ rd l i ∧ rd l i ≤ hi
    · refine ev_ifp (by simpa using c) ?_
      refine ev_to (allWithin_l0 l lo hi (i + 1) (by omega) hl) ?_
      rw [decide_eq_decide]; simp [c]
    · refine ev_ifn (by simpa using c) (ev_now ?_)
      symm; rw [decide_eq_false_iff_not]; simp [c]
  · simp (disch := omega) only [impl_allWithin.l0, if_neg]
    exact ev_now (by simp [List.drop_eq_nil_of_le (show l.length ≤ i by omega)])
 termination_by l.length - i
theorem allWithin_ev (l : List Int) (lo hi : Int) (hl : l.length ≤ 2000000) : Ev (fun k => impl_allWithin.f k l lo hi) (decide (∀ x ∈ l, lo ≤ x ∧ x ≤ hi)) := by
  have h := allWithin_l0 l lo hi 0 (by omega) hl
  simpa [impl_allWithin.f] using h

/-! total -/
theorem total_l0 (l : List Int) (i : Nat) (h1 : i ≤ l.length) (hl : l.length ≤ 2000) (hb : ∀ x ∈ l, 0 ≤ x ∧ x ≤ 1000000000) :
    Ev (fun k => impl_total.l0 k (l.take i).sum l (l.length : Int) (i : Int)) l.sum := by
  refine ev_succ ?_
  by_cases h : i < l.length
  · have a := sum_take_bound l i 1000000000 hb 2000 hl (by omega)
    have b := sum_take_bound l (i + 1) 1000000000 hb 2000 hl (by omega)
    rw [sum_take_succ l i h] at b
    simp (disch := omega) only [impl_total.l0, if_pos, w64]
    rw [← sum_take_succ l i h]
    exact total_l0 l (i + 1) (by omega) hl hb
  · simp (disch := omega) only [impl_total.l0, if_neg]
    exact ev_now (by rw [List.take_of_length_le (by omega)])
 termination_by l.length - i
theorem total_ev (l : List Int) (hl : l.length ≤ 2000) (hb : ∀ x ∈ l, 0 ≤ x ∧ x ≤ 1000000000) : Ev (fun k => impl_total.f k l) l.sum := by
  have h := total_l0 l 0 (by omega) hl hb
  simpa [impl_total.f] using h

/-! IsDistribution -/
theorem IsDistribution_ev (l : List Int) (hl : l.length ≤ 2000000) : Ev (fun k => impl_IsDistribution.f k l) (decide (Dist l)) := by
  unfold impl_IsDistribution.f
  simp only [within_eq, Option.bind_some]
  by_cases h1 : (1 : Int) ≤ l.length ∧ (l.length : Int) ≤ 16
  · refine ev_ifp (by simpa using h1) (ev_bind (allWithin_ev l 0 1000 hl) ?_)
    by_cases h2 : ∀ x ∈ l, 0 ≤ x ∧ x ≤ 1000
    · refine ev_ifp (by simpa using h2) (ev_bind (total_ev l (by omega) (fun x hx => by have := h2 x hx; omega)) (ev_now ?_))
      rw [decide_eq_decide]; unfold Dist
      exact ⟨fun h => ⟨by omega, h2, by omega⟩, fun h => by omega⟩
    · refine ev_ifn (by simpa using h2) (ev_now ?_)
      symm; rw [decide_eq_false_iff_not]; unfold Dist
      exact fun h => h2 h.2.1
  · refine ev_ifn (by simpa using h1) (ev_now ?_)
    symm; rw [decide_eq_false_iff_not]; unfold Dist
    exact fun h => h1 (by omega)

/-! areCharges -/
theorem areCharges_ev (l : List Int) (hl : l.length ≤ 2000000) : Ev (fun k => impl_areCharges.f k l) (decide (∀ x ∈ l, 0 ≤ x ∧ x ≤ 20)) := by
  unfold impl_areCharges.f
  exact ev_bind (allWithin_ev l 0 20 hl) (ev_now rfl)
theorem areCharges2_ev (o u : Int) : Ev (fun k => impl_areCharges.f k [o, u]) (decide (Chg o u)) := by
  refine ev_to (areCharges_ev [o, u] (by simp)) ?_
  rw [decide_eq_decide]; simp [Chg]

/-! BestOrders -/
theorem BestOrders_l0 (l : List Int) (o u : Int) (h : Dist l) (hc : Chg o u) (d : Nat) : ∀ (i : Nat) (out : List Int) (least : Int), i + d = 16 → (i = 0 → least = 1099511627776) → (0 < i → (∀ q, q < i → least ≤ costR l o u (q : Int)) ∧ ∃ q, q < i ∧ costR l o u ((q : Nat) : Int) = least) →
    out = filtGo (fun q => costR l o u ((q : Nat) : Int) = least) 0 i 0 [] → Ev (fun k => impl_BestOrders.l0 k l o u out least (i : Int)) (filtGo (bestP l o u) 0 16 0 [], true) := by
  induction d with
  | zero =>
    intro i out least hi h0 h1 ho
    obtain rfl : i = 16 := by omega
    refine ev_succ ?_
    simp only [impl_BestOrders.l0]
    refine ev_ifn (by omega) (ev_now ?_)
    obtain ⟨a, q, hq, e⟩ := h1 (by omega)
    have le := critGo_le l o u 15 0
    have m1 := crit_min l o u h hc (q : Int) (by omega)
    have m2 := a (critGo l o u 15 0).toNat (by omega)
    rw [Int.toNat_of_nonneg le.1] at m2
    have : least = costR l o u (critGo l o u 15 0) := by omega
    rw [ho, this]; rfl
  | succ d ih =>
    intro i out least hi h0 h1 ho
    have p := cost_parts h hc (i : Int) (by omega) (by omega)
    have lo : out.length ≤ i := by
      have := filtGo_len (fun q => costR l o u ((q : Nat) : Int) = least) 0 i 0 []
      rw [ho]; simp at this; exact this
    refine ev_succ ?_
    simp only [impl_BestOrders.l0]
    refine ev_ifp (by omega) (ev_bind (costSum_ev l h o u hc (i : Int) (by omega) (by omega)) ?_)
    rw [w64 (x := (i : Int) + 1) (by omega) (by omega)]
    by_cases c : costR l o u (i : Int) < least
    · refine ev_ifp c ?_
      simp only [Option.bind_some]
      refine ev_ifp trivial (ev_ifp (by simp) (ih (i + 1) _ _ (by omega) (by omega) (fun _ => ⟨fun q hq => ?_, i, by omega, rfl⟩) ?_))
      · by_cases e : q = i
        · subst e; omega
        · have := (h1 (by omega)).1 q (by omega); omega
      · rw [filtGo_snoc, if_pos (by simp), filtGo_none]
        · simp
        · intro q hq1 hq2 e
          have := (h1 (by omega)).1 q (by omega)
          omega
    · refine ev_ifn c ?_
      have ipos : 0 < i := by
        rcases Nat.eq_zero_or_pos i with e | e
        · have := h0 e; unfold costR at c; omega
        · exact e
      obtain ⟨a, q0, hq0, e0⟩ := h1 ipos
      by_cases e : costR l o u (i : Int) = least
      · refine ev_ifp e (ev_ifp (by omega) (ih (i + 1) _ _ (by omega) (by omega) (fun _ => ⟨fun q hq => ?_, q0, by omega, e0⟩) ?_))
        · by_cases e1 : q = i
          · subst e1; omega
          · exact a q (by omega)
        · rw [filtGo_snoc, if_pos (by simpa using e), ← ho]; simp
      · refine ev_ifn e (ih (i + 1) _ _ (by omega) (by omega) (fun _ => ⟨fun q hq => ?_, q0, by omega, e0⟩) ?_)
        · by_cases e1 : q = i
          · subst e1; omega
          · exact a q (by omega)
        · rw [filtGo_snoc, if_neg (by simpa using e), ← ho]
theorem BestOrders_ev (l : List Int) (o u : Int) (hl : l.length ≤ 2000000) : Ev (fun k => impl_BestOrders.f k l o u) (BestOrdersR l o u) := by
  unfold impl_BestOrders.f BestOrdersR
  refine ev_bind (IsDistribution_ev l hl) ?_
  by_cases h : Dist l
  · refine ev_ifp (by simpa using h) (ev_bind (areCharges2_ev o u) (ev_succ ?_))
    simp only [impl_BestOrders.j0]
    by_cases hc : Chg o u
    · rw [if_pos ⟨h, hc⟩]
      exact ev_ifn (by simpa using hc) (BestOrders_l0 l o u h hc 16 0 [] 1099511627776 (by omega) (fun _ => rfl) (fun z => by omega) rfl)
    · rw [if_neg (fun z => hc z.2)]; exact ev_ifp (by simpa using hc) (ev_now rfl)
  · rw [if_neg (fun z => h z.1)]
    refine ev_ifn (by simpa using h) (ev_succ ?_)
    simp only [impl_BestOrders.j0]
    exact ev_ifp trivial (ev_now rfl)

/-! l1In -/
theorem l1In_eq (a b c : Int) : spec_l1In.f a b c = some (decide (b ≤ a ∧ a ≤ c)) := by
  unfold spec_l1In.f
  by_cases h : a ≥ b
  · rw [if_pos h]; congr 1; rw [decide_eq_decide]; omega
  · rw [if_neg h]; congr 1; symm; rw [decide_eq_false_iff_not]; omega

/-! l2Row -/
theorem l2Row_l0 (l : List Int) (n hi : Int) (i : Nat) (h1 : i ≤ l.length) (hl : l.length ≤ 2000000) :
    Ev (fun k => spec_l2Row.l0 k l n hi (i : Int)) (decide ((∀ x ∈ l.drop i, 0 ≤ x ∧ x ≤ hi) ∧ (l.length : Int) = n)) := by
  refine ev_succ ?_
  by_cases h : i < l.length
  · simp (disch := omega) only [spec_l2Row.l0, if_pos, l1In_eq, Option.bind_some, w64]
    rw [drop_rd l i h]
    by_cases c : 0 ≤ rd l i ∧ rd l i ≤ hi
    · refine ev_ifp (by simpa using c) ?_
      refine ev_to (l2Row_l0 l n hi (i + 1) (by omega) hl) ?_
      rw [decide_eq_decide]; simp [c]
    · refine ev_ifn (by simpa using c) (ev_now ?_)
      symm; rw [decide_eq_false_iff_not]; simp [c]
  · simp (disch := omega) only [spec_l2Row.l0, if_neg]
    exact ev_now (by
      rw [List.drop_eq_nil_of_le (show l.length ≤ i by omega)]
      rw [Bool.eq_iff_iff]; simp)
 termination_by l.length - i
theorem l2Row_ev (l : List Int) (n hi : Int) (hl : l.length ≤ 2000000) : Ev (fun k => spec_l2Row.f k l n hi) (decide ((∀ x ∈ l, 0 ≤ x ∧ x ≤ hi) ∧ (l.length : Int) = n)) := by
  have h := l2Row_l0 l n hi 0 (by omega) hl
  simpa [spec_l2Row.f] using h

/-! l2Sum -/
theorem l2Sum_l0 (l : List Int) (i : Nat) (h1 : i ≤ l.length) (hl : l.length ≤ 2000) (hb : ∀ x ∈ l, 0 ≤ x ∧ x ≤ 1000000000) :
    Ev (fun k => spec_l2Sum.l0 k l (l.take i).sum (i : Int)) l.sum := by
  refine ev_succ ?_
  by_cases h : i < l.length
  · have a := sum_take_bound l i 1000000000 hb 2000 hl (by omega)
    have b := sum_take_bound l (i + 1) 1000000000 hb 2000 hl (by omega)
    rw [sum_take_succ l i h] at b
    simp (disch := omega) only [spec_l2Sum.l0, if_pos, w64]
    rw [← sum_take_succ l i h]
    exact l2Sum_l0 l (i + 1) (by omega) hl hb
  · simp (disch := omega) only [spec_l2Sum.l0, if_neg]
    exact ev_now (by rw [List.take_of_length_le (by omega)])
 termination_by l.length - i
theorem l2Sum_ev (l : List Int) (hl : l.length ≤ 2000) (hb : ∀ x ∈ l, 0 ≤ x ∧ x ≤ 1000000000) : Ev (fun k => spec_l2Sum.f k l) l.sum := by
  have h := l2Sum_l0 l 0 (by omega) hl hb
  simpa [spec_l2Sum.f] using h

/-! l5Total -/
theorem l5Total_ev (l : List Int) (hl : l.length ≤ 2000) (hb : ∀ x ∈ l, 0 ≤ x ∧ x ≤ 1000000000) : Ev (fun k => spec_l5Total.f k l) l.sum := by
  unfold spec_l5Total.f
  exact ev_bind (l2Sum_ev l hl hb) (ev_now rfl)

/-! l5Good -/
theorem l5Good_ev (l : List Int) (hl : l.length ≤ 2000000) : Ev (fun k => spec_l5Good.f k l) (decide (Dist l)) := by
  unfold spec_l5Good.f
  simp only [l1In_eq, Option.bind_some]
  by_cases h1 : (1 : Int) ≤ l.length ∧ (l.length : Int) ≤ 16
  · refine ev_ifp (by simpa using h1) (ev_bind (l2Row_ev l _ 1000 hl) ?_)
    by_cases h2 : ∀ x ∈ l, 0 ≤ x ∧ x ≤ 1000
    · refine ev_ifp (by simpa using h2) (ev_bind (l5Total_ev l (by omega) (fun x hx => by have := h2 x hx; omega)) (ev_now ?_))
      rw [decide_eq_decide]; unfold Dist
      exact ⟨fun h => ⟨by omega, h2, by omega⟩, fun h => by omega⟩
    · refine ev_ifn (by simpa using h2) (ev_now ?_)
      symm; rw [decide_eq_false_iff_not]; unfold Dist
      exact fun h => h2 h.2.1
  · refine ev_ifn (by simpa using h1) (ev_now ?_)
    symm; rw [decide_eq_false_iff_not]; unfold Dist
    exact fun h => h1 (by omega)

/-! l5Charges -/
theorem l5Charges_eq (o u : Int) : spec_l5Charges.f o u = some (decide (Chg o u)) := by
  unfold spec_l5Charges.f
  simp only [l1In_eq, Option.bind_some]
  by_cases h : 0 ≤ o ∧ o ≤ 20
  · rw [if_pos (by simpa using h)]; congr 1; rw [decide_eq_decide]; simp [Chg, h]
  · rw [if_neg (by simpa using h)]; congr 1; symm; rw [decide_eq_false_iff_not]; exact fun z => h z.1

/-! l5UpTo -/
theorem l5UpTo_l0 (l : List Int) (q : Int) (h : Dist l) (h0 : 0 ≤ q) (h1 : q ≤ 1000) (i : Nat) (hi : i ≤ l.length) (hq : (i : Int) ≤ q + 1) : Ev (fun k => spec_l5UpTo.l0 k l q (l.take i).sum (i : Int)) (cum l q) := by
  have hl := dist_len h
  refine ev_succ ?_
  by_cases hlt : i < l.length
  · by_cases hqi : (i : Int) ≤ q
    · have a := sum_take_bound l i 1000000000 (dist_small h) 16 (by omega) (by omega)
      have b := sum_take_bound l (i + 1) 1000000000 (dist_small h) 16 (by omega) (by omega)
      rw [sum_take_succ l i hlt] at b
      simp (disch := omega) only [spec_l5UpTo.l0, if_pos, w64]
      rw [← sum_take_succ l i hlt]
      exact l5UpTo_l0 l q h h0 h1 (i + 1) (by omega) (by omega)
    · simp only [spec_l5UpTo.l0]
      refine ev_ifp (by omega) (ev_ifn (by omega) (ev_now ?_))
      unfold cum; rw [show (q + 1).toNat = i by omega]
  · simp (disch := omega) only [spec_l5UpTo.l0, if_neg]
    exact ev_now (by rw [cum_all q (by omega), List.take_of_length_le (by omega)])
 termination_by l.length - i
theorem l5UpTo_ev (l : List Int) (q : Int) (h : Dist l) (h0 : 0 ≤ q) (h1 : q ≤ 1000) : Ev (fun k => spec_l5UpTo.f k l q) (cum l q) := by
  have := l5UpTo_l0 l q h h0 h1 0 (by omega) (by omega)
  simpa [spec_l5UpTo.f] using this

/-! l5Critical -/
theorem l5Critical_l0 (l : List Int) (o u : Int) (h : Dist l) (hc : Chg o u) (d : Nat) : ∀ q : Int, 0 ≤ q → q + d = 15 → Ev (fun k => spec_l5Critical.l0 k l o u q) (critGo l o u d q) := by
  have hl := dist_len h
  induction d with
  | zero =>
    intro q h0 h1
    obtain rfl : q = 15 := by omega
    refine ev_succ ?_
    simp only [spec_l5Critical.l0]
    refine ev_bind (l5UpTo_ev l 15 h h0 (by omega)) (ev_bind (l5Total_ev l (by omega) (dist_small h)) ?_)
    obtain ⟨c1, c2⟩ := hc
    have b1 := mul_bd (show 0 ≤ o + u ∧ o + u ≤ 40 by omega) (dist_cum h 15)
    have b2 := mul_bd c2 (show 0 ≤ l.sum ∧ l.sum ≤ 16000 by have := dist_sum h; omega)
    rw [w64 (x := o + u) (by omega) (by omega), w64 (by omega) (by omega), w64 (by omega) (by omega)]
    exact ev_ifn (crit_end l o u h ⟨c1, c2⟩) (ev_now rfl)
  | succ d ih =>
    intro q h0 h1
    refine ev_succ ?_
    simp only [spec_l5Critical.l0]
    refine ev_bind (l5UpTo_ev l q h h0 (by omega)) (ev_bind (l5Total_ev l (by omega) (dist_small h)) ?_)
    obtain ⟨c1, c2⟩ := hc
    have b1 := mul_bd (show 0 ≤ o + u ∧ o + u ≤ 40 by omega) (dist_cum h q)
    have b2 := mul_bd c2 (show 0 ≤ l.sum ∧ l.sum ≤ 16000 by have := dist_sum h; omega)
    rw [w64 (x := o + u) (by omega) (by omega), w64 (x := (o + u) * cum l q) (by omega) (by omega), w64 (x := u * l.sum) (by omega) (by omega), w64 (by omega) (by omega)]
    unfold critGo
    by_cases c : (o + u) * cum l q < u * l.sum
    · rw [if_pos c]; exact ev_ifp c (ih (q + 1) (by omega) (by omega))
    · rw [if_neg c]; exact ev_ifn c (ev_now rfl)
theorem l5Critical_ev (l : List Int) (o u : Int) (h : Dist l) (hc : Chg o u) : Ev (fun k => spec_l5Critical.f k l o u) (critGo l o u 15 0) := by
  unfold spec_l5Critical.f
  exact l5Critical_l0 l o u h hc 15 0 (by omega) (by omega)

/-! l1Most -/
theorem l1Most_eq (a b : Int) : spec_l1Most.f a b = some (mx a b) := by
  unfold spec_l1Most.f mx
  split <;> split <;> first | rfl | (congr 1; omega)

/-! l5Over -/
theorem l5Over_l0 (l : List Int) (h : Dist l) (q : Int) (h0 : 0 ≤ q) (h1 : q ≤ 100) (d : Nat) : ∀ i : Nat, i + d = l.length → Ev (fun k => spec_l5Over.l0 k l q (overAcc l q i) (i : Int)) (overR l q) := by
  have hl := h.1
  induction d with
  | zero =>
    intro i hi
    obtain rfl : i = l.length := by omega
    refine ev_succ ?_
    simp (disch := omega) only [spec_l5Over.l0, if_neg]
    exact ev_now rfl
  | succ d ih =>
    intro i hi
    have a := overAcc_bd h q h1 i (by omega)
    have b := over_term h q h1 i (by omega)
    refine ev_succ ?_
    simp only [spec_l5Over.l0, l1Most_eq, Option.bind_some]
    rw [w64 (x := q - (i : Int)) (by omega) (by omega), w64 (x := rd l (i : Int) * mx 0 (q - i)) (by omega) (by omega), w64 (x := overAcc l q i + rd l (i : Int) * mx 0 (q - i)) (by omega) (by omega), w64 (x := (i : Int) + 1) (by omega) (by omega)]
    exact ev_ifp (by omega) (ev_ifp (by omega) (ih (i + 1) (by omega)))
theorem l5Over_ev (l : List Int) (h : Dist l) (q : Int) (h0 : 0 ≤ q) (h1 : q ≤ 100) : Ev (fun k => spec_l5Over.f k l q) (overR l q) :=
  l5Over_l0 l h q h0 h1 l.length 0 (by omega)

/-! l5Short -/
theorem l5Short_l0 (l : List Int) (h : Dist l) (q : Int) (h0 : 0 ≤ q) (h1 : q ≤ 100) (d : Nat) : ∀ i : Nat, i + d = l.length → Ev (fun k => spec_l5Short.l0 k l q (shortAcc l q i) (i : Int)) (shortR l q) := by
  have hl := h.1
  induction d with
  | zero =>
    intro i hi
    obtain rfl : i = l.length := by omega
    refine ev_succ ?_
    simp (disch := omega) only [spec_l5Short.l0, if_neg]
    exact ev_now rfl
  | succ d ih =>
    intro i hi
    have a := shortAcc_bd h q h0 i (by omega)
    have b := short_term h q h0 i (by omega)
    refine ev_succ ?_
    simp only [spec_l5Short.l0, l1Most_eq, Option.bind_some]
    rw [w64 (x := (i : Int) - q) (by omega) (by omega), w64 (x := rd l (i : Int) * mx 0 (i - q)) (by omega) (by omega), w64 (x := shortAcc l q i + rd l (i : Int) * mx 0 (i - q)) (by omega) (by omega), w64 (x := (i : Int) + 1) (by omega) (by omega)]
    exact ev_ifp (by omega) (ev_ifp (by omega) (ih (i + 1) (by omega)))
theorem l5Short_ev (l : List Int) (h : Dist l) (q : Int) (h0 : 0 ≤ q) (h1 : q ≤ 100) : Ev (fun k => spec_l5Short.f k l q) (shortR l q) :=
  l5Short_l0 l h q h0 h1 l.length 0 (by omega)

/-! l5Cost -/
theorem l5Cost_ev (l : List Int) (h : Dist l) (o u : Int) (hc : Chg o u) (q : Int) (h0 : 0 ≤ q) (h1 : q ≤ 100) : Ev (fun k => spec_l5Cost.f k l o u q) (costR l o u q) := by
  have b := cost_parts h hc q h0 h1
  unfold spec_l5Cost.f
  refine ev_bind (l5Over_ev l h q h0 h1) (ev_bind (l5Short_ev l h q h0 h1) (ev_now ?_))
  rw [w64 (x := o * overR l q) (by omega) (by omega), w64 (x := u * shortR l q) (by omega) (by omega), w64 (by omega) (by omega)]; rfl

/-! spec_BestOrders -/
theorem spec_BestOrders_l0 (l : List Int) (o u : Int) (h : Dist l) (hc : Chg o u) (d : Nat) : ∀ (i : Nat) (out : List Int), i + d = 16 → out.length ≤ i → Ev (fun k => spec_BestOrders.l0 k l o u out (costR l o u (critGo l o u 15 0)) (i : Int)) (filtGo (bestP l o u) 0 d i out, true) := by
  induction d with
  | zero =>
    intro i out hi ho
    refine ev_succ ?_
    simp only [spec_BestOrders.l0]
    exact ev_ifn (by omega) (ev_now rfl)
  | succ d ih =>
    intro i out hi ho
    refine ev_succ ?_
    simp only [spec_BestOrders.l0]
    refine ev_ifp (by omega) (ev_bind (l5Cost_ev l h o u hc (i : Int) (by omega) (by omega)) ?_)
    rw [w64 (x := (i : Int) + 1) (by omega) (by omega)]
    unfold filtGo
    by_cases c : bestP l o u i
    · rw [if_pos c]; exact ev_ifp c (ev_ifp (by omega) (ih (i + 1) _ (by omega) (by simp; omega)))
    · rw [if_neg c]; exact ev_ifn c (ih (i + 1) _ (by omega) (by omega))
theorem spec_BestOrders_ev (l : List Int) (o u : Int) (hl : l.length ≤ 2000000) : Ev (fun k => spec_BestOrders.f k l o u) (BestOrdersR l o u) := by
  unfold spec_BestOrders.f BestOrdersR
  simp only [l5Charges_eq, Option.bind_some]
  refine ev_bind (l5Good_ev l hl) ?_
  by_cases h : Dist l
  · refine ev_ifp (by simpa using h) (ev_succ ?_)
    simp only [spec_BestOrders.j0]
    by_cases hc : Chg o u
    · have le := critGo_le l o u 15 0
      rw [if_pos ⟨h, hc⟩]
      exact ev_ifn (by simpa using hc) (ev_bind (l5Critical_ev l o u h hc) (ev_bind (l5Cost_ev l h o u hc _ (by omega) (by omega)) (spec_BestOrders_l0 l o u h hc 16 0 [] (by omega) (by simp))))
    · rw [if_neg (fun z => hc z.2)]; exact ev_ifp (by simpa using hc) (ev_now rfl)
  · rw [if_neg (fun z => h z.1)]
    refine ev_ifn (by simpa using h) (ev_succ ?_)
    simp only [spec_BestOrders.j0]
    exact ev_ifp trivial (ev_now rfl)

/-! LAW FnExactBestOrders -/
theorem FnExactBestOrders : laws_FnExactBestOrders.Pure := by
  intro l0 a1 a2 _ _ _ _ _
  refine Ev.rounds ?_
  unfold laws_FnExactBestOrders.f
  by_cases h0 : (l0.length : Int) > 1048576
  · exact ev_ifp h0 (ev_now rfl)
  refine ev_ifn h0 ?_
  have hl0 : l0.length ≤ 2000000 := by omega
  have hs := spec_BestOrders_ev l0 a1 a2 hl0
  have hi := BestOrders_ev l0 a1 a2 hl0
  have hR := BestOrdersR_len l0 a1 a2
  generalize BestOrdersR l0 a1 a2 = R at hs hi hR
  repeat (first
    | exact ev_now rfl
    | refine ev_bind hs ?_
    | refine ev_bind hi ?_
    | (refine ev_bind (toIntS_ev _ ?_) ?_; first | assumption | omega)
    | (refine ev_bind (eqIntS_ev _ ?_) ?_; first | assumption | omega)
    | (refine ev_bind (markIntS_ev _ _ ?_ ?_ ?_) ?_; omega; omega; first | assumption | omega)
    | (refine ev_bind (heldIntS_ev _ _ ?_ ?_ ?_) ?_; omega; omega; first | assumption | omega)
    | (refine ev_ifp ?_ ?_; first | rfl | omega | focus (simp; done))
    | (refine ev_ifn ?_ ?_; first | omega | focus (simp; done))
    | (refine ev_succ ?_; simp only [laws_FnExactBestOrders.j0])
    | (refine ev_succ ?_; simp only [laws_FnExactBestOrders.j1])
    | (refine ev_succ ?_; simp only [laws_FnExactBestOrders.j2]))

end Go.Proofs.Ytnojmhcmngejnaa.Pure
