/- The pure statement of the law FnExactChecksum: what the program's function answers is what the reference answers, for all arguments of the kinds of its parameters. -/
import Derived.Test.YtbdbogpmnmcaeaaPFnExactChecksumx1
import Derived.Test.YtbdbogpmnmcaeaaBase
namespace Go.Proofs.Ytbdbogpmnmcaeaa.Pure
set_option linter.unusedSimpArgs false
open Go.RowKit Go.Proofs.Ytbdbogpmnmcaeaa.PFnExactChecksum Go.Proofs.YtbdbogpmnmcaeaaW.PrintWords Go.Proofs.YtbdbogpmnmcaeaaW.PrintLast Go.Proofs.Ytbdbogpmnmcaeaa.Base

/-! sumGo -/
/-- The checksum of the bytes from place i on, from the state h. -/
def sumGo (s : ByteArray) : Nat → Nat → Int → Int
  | 0, _, h => h
  | d + 1, i, h => sumGo s d (i + 1) (Int.tmod (wrap64 (wrap64 (wrap64 (41 * h) + wrap64 (bt s (i : Int))) + 1)) 999979)

/-! l1Sum -/
theorem l1Sum_l0 (s : ByteArray) (hs : s.size ≤ 2000000) (d : Nat) : ∀ (i : Nat) (h : Int), i + d = s.size → Ev (fun k => spec_l1Sum.l0 k s h (i : Int)) (sumGo s d i h) := by
  induction d with
  | zero =>
    intro i h hi
    refine ev_succ ?_
    simp only [spec_l1Sum.l0]
    exact ev_ifn (by omega) (ev_now rfl)
  | succ d ih =>
    intro i h hi
    refine ev_succ ?_
    simp only [spec_l1Sum.l0]
    rw [w64 (x := (i : Int) + 1) (by omega) (by omega)]
    exact ev_ifp (by omega) (ev_ifp (by omega) (ih (i + 1) _ (by omega)))
theorem l1Sum_ev (s : ByteArray) (hs : s.size ≤ 2000000) : Ev (fun k => spec_l1Sum.f k s) (sumGo s s.size 0 7) := l1Sum_l0 s hs s.size 0 7 (by omega)

/-! checksum -/
theorem checksum_l0 (s : ByteArray) (hs : s.size ≤ 2000000) (d : Nat) : ∀ (i : Nat) (h : Int), i + d = s.size → Ev (fun k => impl_checksum.l0 k s h (s.size : Int) (i : Int)) (sumGo s d i h) := by
  induction d with
  | zero =>
    intro i h hi
    refine ev_succ ?_
    simp only [impl_checksum.l0]
    exact ev_ifn (by omega) (ev_now rfl)
  | succ d ih =>
    intro i h hi
    refine ev_succ ?_
    simp only [impl_checksum.l0]
    rw [w64 (x := (i : Int) + 1) (by omega) (by omega)]
    exact ev_ifp (by omega) (ev_ifp (by omega) (ev_ifp (by omega) (ih (i + 1) _ (by omega))))
theorem checksum_ev (s : ByteArray) (hs : s.size ≤ 2000000) : Ev (fun k => impl_checksum.f k s) (sumGo s s.size 0 7) := checksum_l0 s hs s.size 0 7 (by omega)

/-! LAW FnExactChecksum -/
theorem FnExactChecksum : laws_FnExactChecksum.Pure := by
  intro s _
  refine Ev.rounds ?_
  unfold laws_FnExactChecksum.f
  by_cases h0 : (s.size : Int) > 1048576
  · exact ev_ifp h0 (ev_now rfl)
  refine ev_ifn h0 ?_
  have h : s.size ≤ 2000000 := by omega
  obtain ⟨R, hs, hi⟩ : ∃ R, Ev (fun k => spec_Checksum.f k s) R ∧ Ev (fun k => impl_Checksum.f k s) R := by
    unfold spec_Checksum.f impl_Checksum.f
    by_cases c : (s.size : Int) > 4000
    · exact ⟨_, ev_ifp c (ev_now rfl), ev_ifp c (ev_now rfl)⟩
    · exact ⟨_, ev_ifn c (ev_bind (l1Sum_ev s h) (ev_now rfl)), ev_ifn c (ev_bind (checksum_ev s h) (ev_now rfl))⟩
  repeat (first
    | exact ev_now rfl
    | refine ev_bind hs ?_
    | refine ev_bind hi ?_
    | (refine ev_ifp ?_ ?_; first | rfl | omega | focus (simp; done))
    | (refine ev_ifn ?_ ?_; first | omega | focus (simp; done)))

end Go.Proofs.Ytbdbogpmnmcaeaa.Pure
