/- Rows that a call has made and holds: in which blocks each lies, and that it stands while other blocks are written. No condition but those that each lemma names. -/
import Derived.Test.YtbdbogpmnmcaeaaDoorWWords
import Derived.Test.YtbdbogpmnmcaeaaDoorWKept
import Derived.Test.YtbdbogpmnmcaeaaDoorWApart
namespace Go.Proofs.YtbdbogpmnmcaeaaDoor.Hold
open Go.RowKit Go.Proofs.YtbdbogpmnmcaeaaDoorW.PrintWords

/-- What was written lies in the blocks p .. q - 1; all else stands. -/
def Fr (W W' : World) (p q : Nat) : Prop := W.heap.size ≤ W'.heap.size ∧ ∀ k, k < W.heap.size → k < p ∨ q ≤ k → W'.heap[k]? = W.heap[k]?
theorem Fr.of_below {W W' : World} (h : Below W.heap.size W W') : Fr W W' 0 0 := ⟨h.size, fun k hk _ => h.block k hk⟩
theorem Fr.of_kept {W W' : World} {S : Nat → Prop} {p q : Nat} (h : Kept W W' S) (hs : ∀ k, S k → p ≤ k ∧ k < q) : Fr W W' p q := ⟨h.1, fun k hk hn => h.2 k hk (fun hS => by have := hs k hS; omega)⟩
section
variable {α : Type} {d : Kd α} {e : Nat} {W W' : World} {B a b p q : Nat} {ok : Nat → Prop} {v : Value} {xs ys : List α}
/-- A row of the call's own, whose blocks are a .. b - 1. -/
def Hd (d : Kd α) (e : Nat) (W : World) (B a b : Nat) (v : Value) (xs : List α) : Prop := d.R e W B (fun k => a ≤ k ∧ k < b) v xs
theorem Hd.new (h : d.R e W' W.heap.size ok v xs) (hB : B ≤ W.heap.size) (hW : W.heap.size ≤ W'.heap.size) : ∃ a b, (W.heap.size ≤ a ∧ a ≤ b ∧ b ≤ W'.heap.size) ∧ Hd d e W' B a b v xs :=
  ⟨W.heap.size, W'.heap.size, ⟨Nat.le_refl _, hW, Nat.le_refl _⟩, Kd.R_lower (Kd.R_mono (Kd.R_bound h) (fun _ hk => ⟨hk.2.1, hk.2.2.1⟩)) hB⟩
theorem Hd.move (h : Hd d e W B a b v xs) (f : Fr W W' p q) (hd : b ≤ p ∨ q ≤ a) : Hd d e W' B a b v xs := Kd.R_step h (fun k hk hlt => f.2 k hlt (by omega))
theorem Hd.form (h : Hd d e W B a b v xs) : ∃ A c, v = .slice A xs.length c := Kd.R_slice h
theorem Hd.C {A : Option Addr} {n c : Nat} (h : Hd d e W B a b (.slice A n c) xs) : d.C W A xs.length xs := (Kd.R_reads' h).2.2
theorem Hd.cap {A : Option Addr} {c : Nat} (h : Hd d e W B a b (.slice A xs.length c) xs) : xs.length ≤ c := (Kd.R_reads' h).2.1
theorem Hd.own (h : Hd d e W B a b v xs) : d.R e W B (fun k => a ≤ k ∧ k < b) v xs := h
/-- Behind a call that has written it. -/
theorem Hd.marked (h : Hd d e W B a b v xs) (hE : d.E = []) (h2 : d.R e W' B ok v ys) : Hd d e W' B a b v ys := Kd.R_mono (Kd.R_tight hE h2) (fun k hk => h.1 k hk.symm)
/-- The same of rows that lie apart. -/
def Hs (d : Kd α) (e : Nat) (W : World) (B a b : Nat) (v : Value) (xs : List α) : Prop := Kd.S d e W B (fun k => a ≤ k ∧ k < b) v xs
theorem Hs.new (h : Kd.S d e W' W.heap.size ok v xs) (hB : B ≤ W.heap.size) (hW : W.heap.size ≤ W'.heap.size) : ∃ a b, (W.heap.size ≤ a ∧ a ≤ b ∧ b ≤ W'.heap.size) ∧ Hs d e W' B a b v xs :=
  ⟨W.heap.size, W'.heap.size, ⟨Nat.le_refl _, hW, Nat.le_refl _⟩, Kd.S_lower (Kd.S_mono (Kd.S_bound h) (fun _ hk => ⟨hk.2.1, hk.2.2.1⟩)) hB⟩
theorem Hs.move (h : Hs d e W B a b v xs) (f : Fr W W' p q) (hd : b ≤ p ∨ q ≤ a) : Hs d e W' B a b v xs := Kd.S_step h (fun k hk hlt => f.2 k hlt (by omega))
theorem Hs.form (h : Hs d e W B a b v xs) : ∃ A c, v = .slice A xs.length c := Kd.S_slice h
theorem Hs.C {A : Option Addr} {n c : Nat} (h : Hs d e W B a b (.slice A n c) xs) : d.C W A xs.length xs := (Kd.S_reads' h).2.2
theorem Hs.cap {A : Option Addr} {c : Nat} (h : Hs d e W B a b (.slice A xs.length c) xs) : xs.length ≤ c := (Kd.S_reads' h).2.1
theorem Hs.own (h : Hs d e W B a b v xs) : Kd.S d e W B (fun k => a ≤ k ∧ k < b) v xs := h
/-- Two rows of one call that lie in blocks of their own: the blocks of each, told by the row itself. -/
theorem Hd.tight (h : Hd d e W B a b v xs) (hE : d.E = []) : d.R e W B (fun k => some k = v.ownBlock) v xs := Kd.R_tight hE h
theorem Hd.within (h : Hd d e W B a b v xs) : ∀ k, some k = v.ownBlock → a ≤ k ∧ k < b := fun k hk => h.1 k hk.symm
end
/-- A block, known whole, while others are written. -/
theorem Fr.blk {W W' : World} {p q g : Nat} {o : Obj} (h : W.heap[g]? = some o) (f : Fr W W' p q) (hd : g < p ∨ q ≤ g) : W'.heap[g]? = some o := (f.2 g (blk_lt h) hd).trans h
theorem Fr.drew (W : World) : Fr W W.drew 0 0 := Fr.of_below (below_drew1 (Below.refl _ _))
theorem Fr.set {W W' : World} {g : Nat} (f : Fr W W' g (g + 1)) (i : Nat) (v : Value) : Fr W (W'.setCell ⟨g, i, none⟩ v) g (g + 1) :=
  ⟨by simpa [World.setCell] using f.1, fun k hk hd => (Below.heap_setCell W' ⟨g, i, none⟩ v k (by show k ≠ g; omega)).trans (f.2 k hk hd)⟩
/-- A struct of four fields, stored into its block. -/
theorem stored4 {w W : World} {g t : Nat} {a b c d : Value} (h : W.heap[g]? = some (.cells #[a, b, c, d] t (0, 0))) (hB : Below w.heap.size w W) (hg : w.heap.size ≤ g) (x0 x1 x2 x3 : Value) :
    ((((W.setCell ⟨g, 0, none⟩ x0).setCell ⟨g, 1, none⟩ x1).setCell ⟨g, 2, none⟩ x2).setCell ⟨g, 3, none⟩ x3).heap[g]? = some (.cells #[x0, x1, x2, x3] t (0, 0)) ∧
    Fr W ((((W.setCell ⟨g, 0, none⟩ x0).setCell ⟨g, 1, none⟩ x1).setCell ⟨g, 2, none⟩ x2).setCell ⟨g, 3, none⟩ x3) g (g + 1) ∧
    Below w.heap.size w ((((W.setCell ⟨g, 0, none⟩ x0).setCell ⟨g, 1, none⟩ x1).setCell ⟨g, 2, none⟩ x2).setCell ⟨g, 3, none⟩ x3) := by
  refine ⟨blk_put (blk_put (blk_put (blk_put h 0 x0 rfl) 1 x1 rfl) 2 x2 rfl) 3 x3 rfl, ?_, below_set (below_set (below_set (below_set hB hg) hg) hg) hg⟩
  exact Fr.set (Fr.set (Fr.set (Fr.set ⟨Nat.le_refl _, fun _ _ _ => rfl⟩ 0 x0) 1 x1) 2 x2) 3 x3
end Go.Proofs.YtbdbogpmnmcaeaaDoor.Hold
