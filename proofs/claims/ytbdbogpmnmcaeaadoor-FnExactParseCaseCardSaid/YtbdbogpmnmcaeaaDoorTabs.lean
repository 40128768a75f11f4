/- What the walks of this seat ask of the memory at each call of the library: the table of powers of ten, the two errors of strconv, the search's own bound. Each stands in every later world of a call. No condition. -/
import Derived.Test.YtbdbogpmnmcaeaaDoorProg
import Derived.Test.YtbdbogpmnmcaeaaDoorWWords
import Derived.Lib.LaidTab
import Derived.Lib.ItoaNum
import Derived.WalkSmall
import Derived.ChangeBears2
import Derived.Below
import Derived.KernelRfl
namespace Go.Proofs.YtbdbogpmnmcaeaaDoor.Tabs
open Go.RowKit Go.ChangeShapes Go.Proofs.YtbdbogpmnmcaeaaDoorW.PrintWords
def Tabs (p s m : Bool) (w : World) : Prop :=
  (p = true → Lib.TabIs Tryd.prog w "internal/strconv.uint64pow10" .u64 Lib.pow10Tab) ∧
  (s = true → (∃ tp q, w.var? Tryd.prog "strconv.ErrSyntax" = some #[.iface tp q]) ∧ (∃ tp q, w.var? Tryd.prog "strconv.ErrRange" = some #[.iface tp q])) ∧
  (m = true → ∃ v, w.cell? ⟨2, 0, none⟩ = some (.int .i64 v))
theorem var_below {n : String} {w w' : World} {cs : Array Value} {g : Nat} (hg : Tryd.prog.globalNamed n = some g) (hb : Below w.heap.size w w') (hn : 0 < cs.size) (h : w.var? Tryd.prog n = some cs) : w'.var? Tryd.prog n = some cs := by
  have hc := World.var?_cell hg h 0
  rw [Array.getElem?_eq_getElem hn] at hc
  exact var?_below hb hg (World.block_lt_of_cell? w _ hc) h
theorem Tabs.below {p s m : Bool} {w w' : World} (h : Tabs p s m w) (hb : Below w.heap.size w w') : Tabs p s m w' := by
  refine ⟨fun e => ?_, fun e => ?_, fun e => ?_⟩
  · have h1 := h.1 e
    unfold Lib.TabIs at h1 ⊢
    exact var_below (g := 3) (by kernel_rfl) hb (by simp [Lib.pow10Tab]) h1
  · obtain ⟨⟨t1, q1, h1⟩, ⟨t2, q2, h2⟩⟩ := h.2.1 e
    exact ⟨⟨t1, q1, var_below (g := 0) (by kernel_rfl) hb (by simp) h1⟩, ⟨t2, q2, var_below (g := 1) (by kernel_rfl) hb (by simp) h2⟩⟩
  · obtain ⟨v, h1⟩ := h.2.2 e
    exact ⟨v, (hb.cell (World.block_lt_of_cell? w _ h1)).trans h1⟩
theorem Tabs.drewN {p s m : Bool} {w : World} (h : Tabs p s m w) (n : Nat) : Tabs p s m (w.drewN n) := h.below (pw_below_drewN (Below.refl _ _) n)
theorem Tabs.drew {p s m : Bool} {w : World} (h : Tabs p s m w) : Tabs p s m w.drew := h.below (below_drew1 (Below.refl _ _))
theorem Tabs.alloc {p s m : Bool} {w : World} (h : Tabs p s m w) (o : Obj) : Tabs p s m (w.alloc o) := h.below (below_alloc (Below.refl _ _) o)
theorem Tabs.drawn {p s m : Bool} {w w' : World} (h : Tabs p s m w) (hb : Drawn0 w w') : Tabs p s m w' := h.below hb.below
end Go.Proofs.YtbdbogpmnmcaeaaDoor.Tabs
