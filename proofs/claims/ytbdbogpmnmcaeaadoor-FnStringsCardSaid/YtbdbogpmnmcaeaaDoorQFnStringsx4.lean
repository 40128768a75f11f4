/- Written by a program of this session (strw.py, as lawwalk.py): the walk of the law FnStrings, where every answer on the way is known; the facts that it asks are those of the pure statement. -/
import Derived.Test.YtbdbogpmnmcaeaaDoorQFnStringsx1
import Derived.Test.YtbdbogpmnmcaeaaDoorQFnStringsx2
import Derived.Test.YtbdbogpmnmcaeaaDoorQFnStringsx3
import Derived.Lib.ConvBytes
import Derived.Deep.RegionLaw
namespace Go.Proofs.YtbdbogpmnmcaeaaDoor.PFnStrings
open Go.RowKit Go.Proofs.YtbdbogpmnmcaeaaDoor.Tabs Go.Proofs.YtbdbogpmnmcaeaaDoorW.PrintWords Go.Proofs.YtbdbogpmnmcaeaaDoorW.PrintLast Go.Proofs.YtbdbogpmnmcaeaaDoorW.PrintMore
set_option linter.unusedVariables false
set_option linter.unusedSimpArgs false
/-- The bytes of a text. -/
def nums8 (s : ByteArray) : List Int := s.data.toList.map (fun b => (b.toNat : Int))
/-- The byte that the law writes. -/
def XV (b v : Int) : Int := bits BinOp.xor IntKind.u8 b (IntKind.u8.wrap (wrap64 (1 + v.tmod 255)))
theorem nums8_len (s : ByteArray) : (nums8 s).length = s.size := by simp only [nums8, List.length_map]; exact Array.length_toList

set_option maxRecDepth 100000 in
theorem laws_FnStrings.big (A0 : Option Addr) (c0 : Nat) (l0 : List Int) (w : World) (hr0 : Kd.C (Kd.int .u8) w A0 l0.length l0) (hc0 : l0.length ≤ c0) (hT : Tabs true true true w) (F0 : laws_vBig.f l0 = some true) :
    Calls Tryd.prog 8 #[.slice A0 l0.length c0] w fun e w' => e = .returned (.bool true) ∧ Below w.heap.size w w' := by
  have HR0 := Aside0.mk hr0
  have HC0 := Aside0.mk hc0
  have HT := Aside0.mk hT
  have HT00 := HT
  clear hr0 hc0 hT
  have HB := Aside0.mk (Below.refl w.heap.size w)
  have F0 := Aside0.mk F0
  go_enter Tryd.func8, Tryd.ntmps8
  go_wp2_with (first | (go_at_call 25; (with_reducible refine (laws_vBig.calls A0 c0 l0 true _ (Kd.C_below HR0.out HB.out) HC0.out F0.out).mono ?_); rintro e w' ⟨rfl, hd⟩; have HBn := Aside0.mk (below_step HB.out hd.below); have HTn := Aside0.mk (Tabs.below HT.out hd.below); clear HB HT; have HB := HBn; have HT := HTn; clear HBn HTn hd))
  go_ret
  exact ⟨rfl, HB.out⟩
set_option maxHeartbeats 8000000 in
set_option maxRecDepth 100000 in
theorem laws_FnStrings.plain (k : Nat) (A0 : Option Addr) (c0 : Nat) (l0 : List Int) (w : World) (hr0 : Kd.C (Kd.int .u8) w A0 l0.length l0) (hc0 : l0.length ≤ c0) (hT : Tabs true true true w) (n : Int) (s : ByteArray) (ok : Bool) (t : ByteArray) (m : Int) (fine : Bool) (x y : ByteArray) (sealed : Bool) (bk : Int) (th : Bool) (f0 : laws_vBig.f l0 = some false) (f1 : spec_DrawFormatInt.f l0 = some n) (f2 : impl_FormatInt.f n = some (s, ok)) (f3 : spec_FormatInt.f k n = some (s, ok)) (f4 : spec_DrawParseInt.f k l0 = some t) (f5 : impl_ParseInt.f t = some (m, fine)) (f6 : spec_ParseInt.f k t = some (m, fine)) (f7 : spec_DrawAppendChecksum.f l0 = some x) (f8 : impl_AppendChecksum.f k x = some (y, sealed)) (f9 : spec_AppendChecksum.f k x = some (y, sealed)) (f10 : impl_ParseInt.f s = some (bk, th)) (hbk : ok = false ∨ (th = true ∧ bk = n)) (hs : sealed = false) (hy : y = ⟨#[]⟩) :
    Calls Tryd.prog 8 #[.slice A0 l0.length c0] w fun e w' => e = .returned (.bool true) ∧ Below w.heap.size w w' := by
  have HR0 := Aside0.mk hr0
  have HC0 := Aside0.mk hc0
  have HT := Aside0.mk hT
  have HT00 := HT
  clear hr0 hc0 hT
  have HB := Aside0.mk (Below.refl w.heap.size w)
  subst hs hy
  have HK_ : ok = false ∨ (ok = true ∧ th = true ∧ bk = n) := by
    rcases hbk with h | h
    · exact .inl h
    · cases ok
      · exact .inl rfl
      · exact .inr ⟨rfl, h⟩
  clear hbk
  have F0 := Aside0.mk f0
  clear f0
  have F1 := Aside0.mk f1
  clear f1
  have F2 := Aside0.mk f2
  clear f2
  have F3 := Aside0.mk f3
  clear f3
  have F4 := Aside0.mk f4
  clear f4
  have F5 := Aside0.mk f5
  clear f5
  have F6 := Aside0.mk f6
  clear f6
  have F7 := Aside0.mk f7
  clear f7
  have F8 := Aside0.mk f8
  clear f8
  have F9 := Aside0.mk f9
  clear f9
  have F10 := Aside0.mk f10
  clear f10
  go_enter Tryd.func8, Tryd.ntmps8
  go_wp2_with (first | (go_at_call 25; (with_reducible refine (laws_vBig.calls A0 c0 l0 false _ (Kd.C_below HR0.out HB.out) HC0.out F0.out).mono ?_); rintro e w' ⟨rfl, hd⟩; have HBn := Aside0.mk (below_step HB.out hd.below); have HTn := Aside0.mk (Tabs.below HT.out hd.below); clear HB HT; have HB := HBn; have HT := HTn; clear HBn HTn hd))
  go_wp2_with (first | (go_at_call 26; (with_reducible refine (spec_DrawFormatInt.calls A0 c0 l0 n _ (Kd.C_below HR0.out HB.out) HC0.out F1.out).mono ?_); rintro e w' ⟨rfl, hb⟩; have HBn := Aside0.mk (below_step HB.out hb); have HTn := Aside0.mk (Tabs.below HT.out hb); clear HB HT; have HB := HBn; have HT := HTn; clear HBn HTn hb))
  go_wp2_with (first | (go_at_call 15; (with_reducible refine (impl_FormatInt.calls n s ok _ F2.out HT.out).mono ?_); rintro e w' ⟨rfl, hb⟩; have HBn := Aside0.mk (below_step HB.out hb); have HTn := Aside0.mk (Tabs.below HT.out hb); clear HB HT; have HB := HBn; have HT := HTn; clear HBn HTn hb))
  go_wp2_with (first | (go_at_call 14; (with_reducible refine (spec_FormatInt.calls k n s ok _ F3.out).mono ?_); rintro e w' ⟨rfl, hb⟩; have HBn := Aside0.mk (below_step HB.out hb); have HTn := Aside0.mk (Tabs.below HT.out hb); clear HB HT; have HB := HBn; have HT := HTn; clear HBn HTn hb))
  go_wp2_with (first | (go_at_call 27; (with_reducible refine (spec_DrawParseInt.calls k A0 c0 l0 t _ (Kd.C_below HR0.out HB.out) HC0.out F4.out).mono ?_); rintro e w' ⟨rfl, hb⟩; have HBn := Aside0.mk (below_step HB.out hb); have HTn := Aside0.mk (Tabs.below HT.out hb); clear HB HT; have HB := HBn; have HT := HTn; clear HBn HTn hb))
  go_wp2_with (first | (go_at_call 13; (with_reducible refine (impl_ParseInt.calls t m fine _ F5.out HT.out).mono ?_); rintro e w' ⟨rfl, hb⟩; have HBn := Aside0.mk (below_step HB.out hb); have HTn := Aside0.mk (Tabs.below HT.out hb); clear HB HT; have HB := HBn; have HT := HTn; clear HBn HTn hb))
  go_wp2_with (first | (go_at_call 12; (with_reducible refine (spec_ParseInt.calls k t m fine _ F6.out).mono ?_); rintro e w' ⟨rfl, hb⟩; have HBn := Aside0.mk (below_step HB.out hb); have HTn := Aside0.mk (Tabs.below HT.out hb); clear HB HT; have HB := HBn; have HT := HTn; clear HBn HTn hb))
  go_wp2_with (first | (go_at_call 28; (with_reducible refine (spec_DrawAppendChecksum.calls A0 c0 l0 x _ (Kd.C_below HR0.out HB.out) HC0.out F7.out).mono ?_); rintro e w' ⟨rfl, hb⟩; have HBn := Aside0.mk (below_step HB.out hb); have HTn := Aside0.mk (Tabs.below HT.out hb); clear HB HT; have HB := HBn; have HT := HTn; clear HBn HTn hb))
  go_wp2_with (first | (go_at_call 22; (with_reducible refine (impl_AppendChecksum.calls k x _ false _ F8.out HT.out).mono ?_); rintro e w' ⟨rfl, hb⟩; have HBn := Aside0.mk (below_step HB.out hb); have HTn := Aside0.mk (Tabs.below HT.out hb); clear HB HT; have HB := HBn; have HT := HTn; clear HBn HTn hb))
  go_wp2_with (first | (go_at_call 21; (with_reducible refine (spec_AppendChecksum.calls k x _ false _ F9.out).mono ?_); rintro e w' ⟨rfl, hb⟩; have HBn := Aside0.mk (below_step HB.out hb); have HTn := Aside0.mk (Tabs.below HT.out hb); clear HB HT; have HB := HBn; have HT := HTn; clear HBn HTn hb))
  rcases HK_ with rfl | ⟨rfl, rfl, rfl⟩
  · go_wp2_with (first | (go_at_call 13; (with_reducible refine (impl_ParseInt.calls s bk th _ F10.out HT.out).mono ?_); rintro e w' ⟨rfl, hb⟩; have HBn := Aside0.mk (below_step HB.out hb); have HTn := Aside0.mk (Tabs.below HT.out hb); clear HB HT; have HB := HBn; have HT := HTn; clear HBn HTn hb))
    go_ret
    exact ⟨by first | rfl | (simp; done), HB.out⟩
  · go_wp2_with (first | (go_at_call 13; (with_reducible refine (impl_ParseInt.calls s bk true _ F10.out HT.out).mono ?_); rintro e w' ⟨rfl, hb⟩; have HBn := Aside0.mk (below_step HB.out hb); have HTn := Aside0.mk (Tabs.below HT.out hb); clear HB HT; have HB := HBn; have HT := HTn; clear HBn HTn hb))
    go_ret
    exact ⟨by first | rfl | (simp; done), HB.out⟩
theorem bytes_open (W : World) (y : ByteArray) : ∃ (G : Nat) (cs : Array Value) (c : Nat) (W1 : World), W.heap.size = G ∧ (convert 9 35 (.string y)).run Tryd.prog W = .ok (.slice (some ⟨G, 0, none⟩) y.size c) W1 ∧ W1.heap[G]? = some (.cells cs 5 (cs.size, cs.size + 1)) ∧
    (∀ j, j < y.size → cs[j]? = some (.int .u8 ((nums8 y).getD j 0))) ∧ y.size ≤ cs.size ∧ Below W.heap.size W W1 ∧ W1.heap.size = G + 1 := by
  refine ⟨_, Lib.bytesCells W 5 y, _, Lib.bytesWorld W 5 y, rfl, Lib.run_convert_string_bytes (P := Tryd.prog) W 9 35 5 y Tryd.underlying9 Tryd.underlying35 Tryd.underlying5, Lib.bytesWorld_at_new W 5 y, ?_, ?_, ⟨rfl, rfl, rfl, by rw [Lib.bytesWorld_size]; omega, fun i hi => Lib.bytesWorld_at_old W 5 y i (by omega)⟩, Lib.bytesWorld_size W 5 y⟩
  · intro j hj
    have hj' : j < y.data.size := hj
    have e : y.data[j]? = some (y.data[j]'hj') := Array.getElem?_eq_getElem hj'
    simp [Lib.bytesCells, Array.getElem?_append, nums8, List.getD_eq_getElem?_getD, hj, e, hj']
  · have h1 : y.data.size = y.size := rfl
    simp only [Lib.bytesCells, Array.size_append, Array.size_map]
    omega
theorem set_cell {W : World} {G kx : Nat} {cs : Array Value} (hb : W.heap[G]? = some (.cells cs 5 (cs.size, cs.size + 1))) (hk : kx < cs.size) (v : Value) (j : Nat) :
    (W.setCell ⟨G, kx, none⟩ v).cell? ⟨G, j, none⟩ = if j = kx then some v else W.cell? ⟨G, j, none⟩ := by
  have hG : G < W.heap.size := by
    rcases Nat.lt_or_ge G W.heap.size with h | h
    · exact h
    · rw [Array.getElem?_eq_none h] at hb
      cases hb
  have hb' := hb
  rw [Array.getElem?_eq_getElem hG] at hb'
  have e1 : (W.setCell ⟨G, kx, none⟩ v).cell? ⟨G, j, none⟩ = (cs.setIfInBounds kx v)[j]? := by simp [World.cell?, World.setCell, hb, Array.getElem?_modify]
  have e2 : W.cell? ⟨G, j, none⟩ = cs[j]? := by simp [World.cell?, hb]
  rw [e1, e2, Array.getElem?_setIfInBounds]
  by_cases e : j = kx
  · subst e
    rw [if_pos rfl, if_pos rfl, if_pos hk]
  · rw [if_neg (Ne.symm e), if_neg e]
theorem Below.setCell_ {B : Nat} (W : World) (ad : Addr) (v : Value) (h : B ≤ ad.block) : Below B W (W.setCell ad v) :=
  ⟨rfl, rfl, rfl, by simp [World.setCell], fun k hk => Below.heap_setCell W ad v k (by omega)⟩
theorem set_reads {W2 : World} {G kx n : Nat} {xs : List Int} {cs : Array Value} {x : Int} (hcs : ∀ j, j < n → cs[j]? = some (.int .u8 (xs.getD j 0))) (hn : xs.length = n) (hn63 : n ≤ 9223372036854775807)
    (h : ∀ j, j < n → W2.cell? ⟨G, j, none⟩ = if j = kx then some (.int .u8 x) else cs[j]?) : ReadsInt W2 .u8 (some ⟨G, 0, none⟩) n (xs.set kx x) := by
  refine ⟨by rw [List.length_set]; exact hn, hn63, fun _ => ⟨_, rfl, fun j hj => ?_⟩⟩
  rw [add_plain, h j hj, hcs j hj]
  by_cases e : j = kx
  · subst e
    rw [if_pos rfl]
    simp [List.getD_eq_getElem?_getD, List.getElem?_set, show j < xs.length by omega]
  · rw [if_neg e]
    simp [List.getD_eq_getElem?_getD, List.getElem?_set, show ¬ kx = j by omega]

def laws_FnStrings.T22 : Bool × List (List Nat × List Nat) := (true, [([], []), ([], []), ([], []), ([], []), ([2, 3], [2, 3]), ([4], [4]), ([], []), ([6], [6]), ([7], [7]), ([8], [8]), ([9], [9]), ([5, 10], [5, 10]), ([0, 1, 0, 1, 2, 3, 4, 5, 6, 7, 8, 9, 10, 11], [0, 1]), ([12, 11, 7, 0, 1, 2, 3, 4, 5, 6, 7, 8, 9, 10, 11], [11, 12])])
def laws_FnStrings.B22 : List Nat := [0, 0, 0, 0, 12, 28, 0, 64, 192, 448, 960, 2044, 4095, 8191]
theorem laws_FnStrings.tab22 : rtab .any (opsOf Tryd.f8 22) = laws_FnStrings.T22 := by kernel_rfl
theorem laws_FnStrings.bits22 : waitsOk laws_FnStrings.T22.2 laws_FnStrings.B22 = true := by kernel_rfl
set_option maxHeartbeats 8000000 in
set_option maxRecDepth 100000 in
theorem laws_FnStrings.sealed (k : Nat) (A0 : Option Addr) (c0 : Nat) (l0 : List Int) (w : World) (hr0 : Kd.C (Kd.int .u8) w A0 l0.length l0) (hc0 : l0.length ≤ c0) (hT : Tabs true true true w) (n : Int) (s : ByteArray) (ok : Bool) (t : ByteArray) (m : Int) (fine : Bool) (x y : ByteArray) (sealed : Bool) (bk : Int) (th : Bool) (f0 : laws_vBig.f l0 = some false) (f1 : spec_DrawFormatInt.f l0 = some n) (f2 : impl_FormatInt.f n = some (s, ok)) (f3 : spec_FormatInt.f k n = some (s, ok)) (f4 : spec_DrawParseInt.f k l0 = some t) (f5 : impl_ParseInt.f t = some (m, fine)) (f6 : spec_ParseInt.f k t = some (m, fine)) (f7 : spec_DrawAppendChecksum.f l0 = some x) (f8 : impl_AppendChecksum.f k x = some (y, sealed)) (f9 : spec_AppendChecksum.f k x = some (y, sealed)) (f10 : impl_ParseInt.f s = some (bk, th)) (hbk : ok = false ∨ (th = true ∧ bk = n)) (hs : sealed = true) (v9 v10 : Int) (kx : Nat) (b0 x0 : Int) (z2 : ByteArray) (f11 : impl_VerifyChecksum.f k y = some (x, true)) (f12 : laws_vAt.f l0 9 = some v9) (f13 : laws_vAt.f l0 10 = some v10) (f14 : impl_VerifyChecksum.f k (strOfNums ((nums8 y).set kx x0)) = some (z2, false)) (hy0 : 0 < y.size) (hy1 : y.size ≤ 4010) (hkx : Int.tmod v9 (y.size : Int) = (kx : Int)) (hkl : kx < y.size) (hb0 : (nums8 y).getD kx 0 = b0) (hx0 : XV b0 v10 = x0) :
    Calls Tryd.prog 8 #[.slice A0 l0.length c0] w fun e w' => e = .returned (.bool true) ∧ Below w.heap.size w w' := by
  have HR0 := Aside0.mk hr0
  have HC0 := Aside0.mk hc0
  have HT := Aside0.mk hT
  have HT00 := HT
  clear hr0 hc0 hT
  have HB := Aside0.mk (Below.refl w.heap.size w)
  subst hs
  have HK_ : ok = false ∨ (ok = true ∧ th = true ∧ bk = n) := by
    rcases hbk with h | h
    · exact .inl h
    · cases ok
      · exact .inl rfl
      · exact .inr ⟨rfl, h⟩
  clear hbk
  have F0 := Aside0.mk f0
  clear f0
  have F1 := Aside0.mk f1
  clear f1
  have F2 := Aside0.mk f2
  clear f2
  have F3 := Aside0.mk f3
  clear f3
  have F4 := Aside0.mk f4
  clear f4
  have F5 := Aside0.mk f5
  clear f5
  have F6 := Aside0.mk f6
  clear f6
  have F7 := Aside0.mk f7
  clear f7
  have F8 := Aside0.mk f8
  clear f8
  have F9 := Aside0.mk f9
  clear f9
  have F10 := Aside0.mk f10
  clear f10
  go_enter Tryd.func8, Tryd.ntmps8
  go_wp2_with (first | (go_at_call 25; (with_reducible refine (laws_vBig.calls A0 c0 l0 false _ (Kd.C_below HR0.out HB.out) HC0.out F0.out).mono ?_); rintro e w' ⟨rfl, hd⟩; have HBn := Aside0.mk (below_step HB.out hd.below); have HTn := Aside0.mk (Tabs.below HT.out hd.below); clear HB HT; have HB := HBn; have HT := HTn; clear HBn HTn hd))
  go_wp2_with (first | (go_at_call 26; (with_reducible refine (spec_DrawFormatInt.calls A0 c0 l0 n _ (Kd.C_below HR0.out HB.out) HC0.out F1.out).mono ?_); rintro e w' ⟨rfl, hb⟩; have HBn := Aside0.mk (below_step HB.out hb); have HTn := Aside0.mk (Tabs.below HT.out hb); clear HB HT; have HB := HBn; have HT := HTn; clear HBn HTn hb))
  go_wp2_with (first | (go_at_call 15; (with_reducible refine (impl_FormatInt.calls n s ok _ F2.out HT.out).mono ?_); rintro e w' ⟨rfl, hb⟩; have HBn := Aside0.mk (below_step HB.out hb); have HTn := Aside0.mk (Tabs.below HT.out hb); clear HB HT; have HB := HBn; have HT := HTn; clear HBn HTn hb))
  go_wp2_with (first | (go_at_call 14; (with_reducible refine (spec_FormatInt.calls k n s ok _ F3.out).mono ?_); rintro e w' ⟨rfl, hb⟩; have HBn := Aside0.mk (below_step HB.out hb); have HTn := Aside0.mk (Tabs.below HT.out hb); clear HB HT; have HB := HBn; have HT := HTn; clear HBn HTn hb))
  go_wp2_with (first | (go_at_call 27; (with_reducible refine (spec_DrawParseInt.calls k A0 c0 l0 t _ (Kd.C_below HR0.out HB.out) HC0.out F4.out).mono ?_); rintro e w' ⟨rfl, hb⟩; have HBn := Aside0.mk (below_step HB.out hb); have HTn := Aside0.mk (Tabs.below HT.out hb); clear HB HT; have HB := HBn; have HT := HTn; clear HBn HTn hb))
  go_wp2_with (first | (go_at_call 13; (with_reducible refine (impl_ParseInt.calls t m fine _ F5.out HT.out).mono ?_); rintro e w' ⟨rfl, hb⟩; have HBn := Aside0.mk (below_step HB.out hb); have HTn := Aside0.mk (Tabs.below HT.out hb); clear HB HT; have HB := HBn; have HT := HTn; clear HBn HTn hb))
  go_wp2_with (first | (go_at_call 12; (with_reducible refine (spec_ParseInt.calls k t m fine _ F6.out).mono ?_); rintro e w' ⟨rfl, hb⟩; have HBn := Aside0.mk (below_step HB.out hb); have HTn := Aside0.mk (Tabs.below HT.out hb); clear HB HT; have HB := HBn; have HT := HTn; clear HBn HTn hb))
  go_wp2_with (first | (go_at_call 28; (with_reducible refine (spec_DrawAppendChecksum.calls A0 c0 l0 x _ (Kd.C_below HR0.out HB.out) HC0.out F7.out).mono ?_); rintro e w' ⟨rfl, hb⟩; have HBn := Aside0.mk (below_step HB.out hb); have HTn := Aside0.mk (Tabs.below HT.out hb); clear HB HT; have HB := HBn; have HT := HTn; clear HBn HTn hb))
  go_wp2_with (first | (go_at_call 22; (with_reducible refine (impl_AppendChecksum.calls k x _ true _ F8.out HT.out).mono ?_); rintro e w' ⟨rfl, hb⟩; have HBn := Aside0.mk (below_step HB.out hb); have HTn := Aside0.mk (Tabs.below HT.out hb); clear HB HT; have HB := HBn; have HT := HTn; clear HBn HTn hb))
  go_wp2_with (first | (go_at_call 21; (with_reducible refine (spec_AppendChecksum.calls k x _ true _ F9.out).mono ?_); rintro e w' ⟨rfl, hb⟩; have HBn := Aside0.mk (below_step HB.out hb); have HTn := Aside0.mk (Tabs.below HT.out hb); clear HB HT; have HB := HBn; have HT := HTn; clear HBn HTn hb))
  have F11 := Aside0.mk f11
  clear f11
  have F12 := Aside0.mk f12
  clear f12
  have F13 := Aside0.mk f13
  clear f13
  have F14 := Aside0.mk f14
  clear f14
  have hyn : (y.size : Int) ≠ 0 := by omega
  rcases HK_ with rfl | ⟨rfl, rfl, rfl⟩
  · go_wp2_with (first | (go_at_call 13; (with_reducible refine (impl_ParseInt.calls s bk th _ F10.out HT.out).mono ?_); rintro e w' ⟨rfl, hb⟩; have HBn := Aside0.mk (below_step HB.out hb); have HTn := Aside0.mk (Tabs.below HT.out hb); clear HB HT; have HB := HBn; have HT := HTn; clear HBn HTn hb))
    go_wp2_with (first | (go_at_call 24; (with_reducible refine (impl_VerifyChecksum.calls k y x true _ F11.out HT.out).mono ?_); rintro e w' ⟨rfl, hb⟩; have HBn := Aside0.mk (below_step HB.out hb); have HTn := Aside0.mk (Tabs.below HT.out hb); clear HB HT; have HB := HBn; have HT := HTn; clear HBn HTn hb; obtain ⟨G, cs, c, W1, hG, hcv, BLK, CS, CSN, hbw, hz1⟩ := bytes_open w' y; have GE : w.heap.size ≤ G := by rw [← hG]; exact HB.out.size))
    have HB1 := Aside0.mk (below_step HB.out hbw)
    have HT1 := Aside0.mk (Tabs.below HT.out hbw)
    clear HT HB hbw
    have HB := Aside0.mk (Below.refl W1.heap.size W1)
    have HT := HT1
    clear HT1
    go_wp2_with (first | (go_at_call 29; (with_reducible refine (laws_vAt.calls A0 c0 l0 9 v9 _ (Kd.C_below HR0.out HB1.out) HC0.out F12.out).mono ?_); rintro e W3 ⟨rfl, hd⟩; have HB := Aside0.mk hd.below; have HT3 := Aside0.mk (Tabs.below HT.out hd.below); have BLK3 := (HB.out.block G (by rw [hz1]; omega)).trans BLK; clear hd))
    refine start_ (n := 14) (S := fun W_ => W_.heap[G]? = some (.cells cs 5 (cs.size, cs.size + 1))) (ds := [13]) #[false, false, false, false, false, false, false, false, false, false, false, false, false, false] (by kernel_rfl) rfl rfl BLK3 (fun hHeld => ?_); refine with_tabW laws_FnStrings.tab22 laws_FnStrings.bits22 (fun HT_ HW_ => ?_)
    refine pure_ (i := 0) (N := some 123) (v := ?_) (a' := ?_) #[true, false, false, false, false, false, false, false, false, false, false, false, false, false] rfl rfl (any_of HT_.out (by kernel_rfl)) (fun _ _ _ h => h) (Or.inl ⟨by rfl, ?_⟩) ?_ ?_
    rotate_left
    · intro w'
      go_simp
      with_reducible rfl
    rotate_left
    · simp only [Act.put, List.setIfInBounds_toArray, List.set_cons_zero, List.set_cons_succ, i64_w, i32_w]
      rfl
    refine pure_ (i := 1) (N := some 124) (v := ?_) (a' := ?_) #[true, true, false, false, false, false, false, false, false, false, false, false, false, false] rfl rfl (any_of HT_.out (by kernel_rfl)) (fun _ _ _ h => h) (Or.inl ⟨by rfl, ?_⟩) ?_ ?_
    rotate_left
    · intro w'
      go_simp
      with_reducible rfl
    rotate_left
    · simp only [Act.put, List.setIfInBounds_toArray, List.set_cons_zero, List.set_cons_succ, i64_w, i32_w]
      rfl
    refine pure_ (i := 2) (N := some 125) (v := ?_) (a' := ?_) #[true, true, true, false, false, false, false, false, false, false, false, false, false, false] rfl rfl (any_of HT_.out (by kernel_rfl)) (fun _ _ _ h => h) (Or.inl ⟨by rfl, ?_⟩) ?_ ?_
    rotate_left
    · intro w'
      go_simp
      with_reducible rfl
    rotate_left
    · simp only [Act.put, List.setIfInBounds_toArray, List.set_cons_zero, List.set_cons_succ, i64_w, i32_w]
      rfl
    refine pure_ (i := 3) (N := some 126) (v := ?_) (a' := ?_) #[true, true, true, true, false, false, false, false, false, false, false, false, false, false] rfl rfl (any_of HT_.out (by kernel_rfl)) (fun _ _ _ h => h) (Or.inl ⟨by rfl, ?_⟩) ?_ ?_
    rotate_left
    · intro w'
      go_simp
      with_reducible rfl
    rotate_left
    · simp only [Act.put, List.setIfInBounds_toArray, List.set_cons_zero, List.set_cons_succ, i64_w, i32_w]
      rfl
    refine pure_ (i := 4) (N := some 127) (v := ?_) (a' := ?_) #[true, true, true, true, true, false, false, false, false, false, false, false, false, false] rfl rfl (any_of HT_.out (by kernel_rfl)) (fun _ _ _ h => h) (Or.inl ⟨by rfl, ?_⟩) ?_ ?_
    rotate_left
    · intro w'
      go_simp
      with_reducible rfl
    rotate_left
    · simp only [Act.put, List.setIfInBounds_toArray, List.set_cons_zero, List.set_cons_succ, i64_w, i32_w]
      rfl
    refine take_ (i := 5) (N := some 128) (v := ?_) (a' := ?_) #[true, true, true, true, true, true, false, false, false, false, false, false, false, false] rfl rfl (take_ofW HT_.out HW_.out (by kernel_rfl)) (fun _ _ _ h => h) (Or.inl ⟨by rfl, ?_⟩) hHeld ?_ ?_
    rotate_left
    · rintro w' s0
      have s_ := (cell_of_row w' G kx cs 5 _ s0).trans ((CS kx hkl).trans (by rw [hb0]))
      go_simp
      with_reducible rfl
    rotate_left
    · simp only [Act.put, List.setIfInBounds_toArray, List.set_cons_zero, List.set_cons_succ, i64_w, i32_w]
      rfl
    refine pure_ (i := 6) (N := some 129) (v := ?_) (a' := ?_) #[true, true, true, true, true, true, true, false, false, false, false, false, false, false] rfl rfl (any_of HT_.out (by kernel_rfl)) (fun _ _ _ h => h) (Or.inl ⟨by rfl, ?_⟩) ?_ ?_
    rotate_left
    · intro w'
      go_simp
      with_reducible rfl
    rotate_left
    · simp only [Act.put, List.setIfInBounds_toArray, List.set_cons_zero, List.set_cons_succ, i64_w, i32_w]
      rfl
    refine one_ (i := 7) (N := some 130) #[true, true, true, true, true, true, true, true, false, false, false, false, false, false] rfl rfl (one_of HT_.out (by kernel_rfl)) (by decide) (fun K hK => ?_)
    refine goes_ Tryd.func29 (by kernel_rfl) rfl #[.slice A0 l0.length c0, .int .i64 10] (by rfl) rfl rfl (by (try simp only [List.map_toArray, List.map_cons, List.map_nil]); first | done | rfl) ?_
    have HB0 := Aside0.mk (below_drew1 HB.out)
    with_reducible refine (laws_vAt.calls A0 c0 l0 10 v10 _ (Kd.C_below HR0.out (below_step HB1.out HB0.out)) HC0.out F13.out).mono ?_
    rintro e W4 ⟨rfl, hd⟩
    refine ⟨_, rfl, ?_⟩
    have HB4 := Aside0.mk (below_step HB0.out hd.below)
    have BLK4 := (HB4.out.block G (by rw [hz1]; omega)).trans BLK
    have hz4 := HB4.out.size
    clear hd
    refine hK.out _ _ BLK4 (fun hHeld => ?_)
    clear hK K
    refine norm_ (a' := ?_) ?_ ?_
    rotate_left
    · show Act.put _ (some 130) _ = _
      simp only [Act.put, List.setIfInBounds_toArray, List.set_cons_zero, List.set_cons_succ, i64_w, i32_w]
      rfl
    refine pure_ (i := 8) (N := some 131) (v := ?_) (a' := ?_) #[true, true, true, true, true, true, true, true, true, false, false, false, false, false] rfl rfl (any_of HT_.out (by kernel_rfl)) (fun _ _ _ h => h) (Or.inl ⟨by rfl, ?_⟩) ?_ ?_
    rotate_left
    · intro w'
      go_simp
      with_reducible rfl
    rotate_left
    · simp only [Act.put, List.setIfInBounds_toArray, List.set_cons_zero, List.set_cons_succ, i64_w, i32_w]
      rfl
    refine pure_ (i := 9) (N := some 132) (v := ?_) (a' := ?_) #[true, true, true, true, true, true, true, true, true, true, false, false, false, false] rfl rfl (any_of HT_.out (by kernel_rfl)) (fun _ _ _ h => h) (Or.inl ⟨by rfl, ?_⟩) ?_ ?_
    rotate_left
    · intro w'
      go_simp
      with_reducible rfl
    rotate_left
    · simp only [Act.put, List.setIfInBounds_toArray, List.set_cons_zero, List.set_cons_succ, i64_w, i32_w]
      rfl
    refine pure_ (i := 10) (N := some 133) (v := ?_) (a' := ?_) #[true, true, true, true, true, true, true, true, true, true, true, false, false, false] rfl rfl (any_of HT_.out (by kernel_rfl)) (fun _ _ _ h => h) (Or.inl ⟨by rfl, ?_⟩) ?_ ?_
    rotate_left
    · intro w'
      go_simp
      with_reducible rfl
    rotate_left
    · simp only [Act.put, List.setIfInBounds_toArray, List.set_cons_zero, List.set_cons_succ, i64_w, i32_w]
      rfl
    refine pure_ (i := 11) (N := some 134) (v := ?_) (a' := ?_) #[true, true, true, true, true, true, true, true, true, true, true, true, false, false] rfl rfl (any_of HT_.out (by kernel_rfl)) (fun _ _ _ h => h) (Or.inl ⟨by rfl, ?_⟩) ?_ ?_
    rotate_left
    · intro w'
      go_simp
      with_reducible rfl
    rotate_left
    · simp only [Act.put, List.setIfInBounds_toArray, List.set_cons_zero, List.set_cons_succ, i64_w, i32_w]
      rfl
    refine pure_ (i := 12) (N := some 135) (v := ?_) (a' := ?_) #[true, true, true, true, true, true, true, true, true, true, true, true, true, false] rfl rfl (any_of HT_.out (by kernel_rfl)) (fun _ _ _ h => h) (Or.inl ⟨by rfl, ?_⟩) ?_ ?_
    rotate_left
    · intro w'
      go_simp
      with_reducible rfl
    rotate_left
    · simp only [Act.put, List.setIfInBounds_toArray, List.set_cons_zero, List.set_cons_succ, i64_w, i32_w]
      rfl
    have hcell : W4.cell? ⟨G, kx, none⟩ = some (.int .u8 b0) := (cell_of_row W4 G kx cs 5 _ BLK4).trans ((CS kx hkl).trans (by rw [hb0]))
    have hfroz : W4.frozen? ⟨G, kx, none⟩ = false := by simp [World.frozen?, BLK4]; omega
    refine last_ (i := 13) (N := none) #[true, true, true, true, true, true, true, true, true, true, true, true, true, true] rfl rfl (one_of HT_.out (by kernel_rfl)) (by decide) (fun K hK => ?_)
    refine skip_ (w1 := ?_) (by rfl) rfl ?_ ?_
    rotate_left
    · go_simp
      rfl
    refine hK.out _ _ ?_
    clear hK K
    refine done_ (done_of HT_.out (by kernel_rfl)) ?_
    have hx0' : bits BinOp.xor IntKind.u8 b0 (IntKind.u8.wrap (wrap64 (1 + v10.tmod 255))) = x0 := hx0
    rw [hx0']
    have hst := string_of_reads (P := Tryd.prog) (c := c) Tryd.underlying35 Tryd.underlying5 Tryd.underlying9 (set_reads (W2 := W4.setCell ⟨G, kx, none⟩ (.int .u8 x0)) (kx := kx) (x := x0) CS (nums8_len y) (by omega) (fun j hj => (set_cell BLK4 (by omega) (.int .u8 x0) j).trans (by rw [cell_of_row W4 G j cs 5 _ BLK4])))
    have HBn := Aside0.mk ((below_step HB1.out HB4.out).trans (Below.setCell_ W4 ⟨G, kx, none⟩ (.int .u8 x0) GE))
    generalize W4.setCell ⟨G, kx, none⟩ (.int .u8 x0) = W5 at hst HBn ⊢
    clear HB HT HB1 HB0 HB4 BLK BLK3 BLK4 HT3 hHeld hcell hfroz hcv
    have HB := HBn
    have HT := Aside0.mk (Tabs.below HT00.out HB.out)
    clear HBn HT00
    go_wp2_with (first | (go_at_call 24; (with_reducible refine (impl_VerifyChecksum.calls k _ z2 false _ F14.out HT.out).mono ?_); rintro e w' ⟨rfl, hb⟩; have HBn := Aside0.mk (below_step HB.out hb); have HTn := Aside0.mk (Tabs.below HT.out hb); clear HB HT; have HB := HBn; have HT := HTn; clear HBn HTn hb))
    go_ret
    exact ⟨by first | rfl | (simp; done), HB.out⟩
  · go_wp2_with (first | (go_at_call 13; (with_reducible refine (impl_ParseInt.calls s bk true _ F10.out HT.out).mono ?_); rintro e w' ⟨rfl, hb⟩; have HBn := Aside0.mk (below_step HB.out hb); have HTn := Aside0.mk (Tabs.below HT.out hb); clear HB HT; have HB := HBn; have HT := HTn; clear HBn HTn hb))
    go_wp2_with (first | (go_at_call 24; (with_reducible refine (impl_VerifyChecksum.calls k y x true _ F11.out HT.out).mono ?_); rintro e w' ⟨rfl, hb⟩; have HBn := Aside0.mk (below_step HB.out hb); have HTn := Aside0.mk (Tabs.below HT.out hb); clear HB HT; have HB := HBn; have HT := HTn; clear HBn HTn hb; obtain ⟨G, cs, c, W1, hG, hcv, BLK, CS, CSN, hbw, hz1⟩ := bytes_open w' y; have GE : w.heap.size ≤ G := by rw [← hG]; exact HB.out.size))
    have HB1 := Aside0.mk (below_step HB.out hbw)
    have HT1 := Aside0.mk (Tabs.below HT.out hbw)
    clear HT HB hbw
    have HB := Aside0.mk (Below.refl W1.heap.size W1)
    have HT := HT1
    clear HT1
    go_wp2_with (first | (go_at_call 29; (with_reducible refine (laws_vAt.calls A0 c0 l0 9 v9 _ (Kd.C_below HR0.out HB1.out) HC0.out F12.out).mono ?_); rintro e W3 ⟨rfl, hd⟩; have HB := Aside0.mk hd.below; have HT3 := Aside0.mk (Tabs.below HT.out hd.below); have BLK3 := (HB.out.block G (by rw [hz1]; omega)).trans BLK; clear hd))
    refine start_ (n := 14) (S := fun W_ => W_.heap[G]? = some (.cells cs 5 (cs.size, cs.size + 1))) (ds := [13]) #[false, false, false, false, false, false, false, false, false, false, false, false, false, false] (by kernel_rfl) rfl rfl BLK3 (fun hHeld => ?_); refine with_tabW laws_FnStrings.tab22 laws_FnStrings.bits22 (fun HT_ HW_ => ?_)
    refine pure_ (i := 0) (N := some 123) (v := ?_) (a' := ?_) #[true, false, false, false, false, false, false, false, false, false, false, false, false, false] rfl rfl (any_of HT_.out (by kernel_rfl)) (fun _ _ _ h => h) (Or.inl ⟨by rfl, ?_⟩) ?_ ?_
    rotate_left
    · intro w'
      go_simp
      with_reducible rfl
    rotate_left
    · simp only [Act.put, List.setIfInBounds_toArray, List.set_cons_zero, List.set_cons_succ, i64_w, i32_w]
      rfl
    refine pure_ (i := 1) (N := some 124) (v := ?_) (a' := ?_) #[true, true, false, false, false, false, false, false, false, false, false, false, false, false] rfl rfl (any_of HT_.out (by kernel_rfl)) (fun _ _ _ h => h) (Or.inl ⟨by rfl, ?_⟩) ?_ ?_
    rotate_left
    · intro w'
      go_simp
      with_reducible rfl
    rotate_left
    · simp only [Act.put, List.setIfInBounds_toArray, List.set_cons_zero, List.set_cons_succ, i64_w, i32_w]
      rfl
    refine pure_ (i := 2) (N := some 125) (v := ?_) (a' := ?_) #[true, true, true, false, false, false, false, false, false, false, false, false, false, false] rfl rfl (any_of HT_.out (by kernel_rfl)) (fun _ _ _ h => h) (Or.inl ⟨by rfl, ?_⟩) ?_ ?_
    rotate_left
    · intro w'
      go_simp
      with_reducible rfl
    rotate_left
    · simp only [Act.put, List.setIfInBounds_toArray, List.set_cons_zero, List.set_cons_succ, i64_w, i32_w]
      rfl
    refine pure_ (i := 3) (N := some 126) (v := ?_) (a' := ?_) #[true, true, true, true, false, false, false, false, false, false, false, false, false, false] rfl rfl (any_of HT_.out (by kernel_rfl)) (fun _ _ _ h => h) (Or.inl ⟨by rfl, ?_⟩) ?_ ?_
    rotate_left
    · intro w'
      go_simp
      with_reducible rfl
    rotate_left
    · simp only [Act.put, List.setIfInBounds_toArray, List.set_cons_zero, List.set_cons_succ, i64_w, i32_w]
      rfl
    refine pure_ (i := 4) (N := some 127) (v := ?_) (a' := ?_) #[true, true, true, true, true, false, false, false, false, false, false, false, false, false] rfl rfl (any_of HT_.out (by kernel_rfl)) (fun _ _ _ h => h) (Or.inl ⟨by rfl, ?_⟩) ?_ ?_
    rotate_left
    · intro w'
      go_simp
      with_reducible rfl
    rotate_left
    · simp only [Act.put, List.setIfInBounds_toArray, List.set_cons_zero, List.set_cons_succ, i64_w, i32_w]
      rfl
    refine take_ (i := 5) (N := some 128) (v := ?_) (a' := ?_) #[true, true, true, true, true, true, false, false, false, false, false, false, false, false] rfl rfl (take_ofW HT_.out HW_.out (by kernel_rfl)) (fun _ _ _ h => h) (Or.inl ⟨by rfl, ?_⟩) hHeld ?_ ?_
    rotate_left
    · rintro w' s0
      have s_ := (cell_of_row w' G kx cs 5 _ s0).trans ((CS kx hkl).trans (by rw [hb0]))
      go_simp
      with_reducible rfl
    rotate_left
    · simp only [Act.put, List.setIfInBounds_toArray, List.set_cons_zero, List.set_cons_succ, i64_w, i32_w]
      rfl
    refine pure_ (i := 6) (N := some 129) (v := ?_) (a' := ?_) #[true, true, true, true, true, true, true, false, false, false, false, false, false, false] rfl rfl (any_of HT_.out (by kernel_rfl)) (fun _ _ _ h => h) (Or.inl ⟨by rfl, ?_⟩) ?_ ?_
    rotate_left
    · intro w'
      go_simp
      with_reducible rfl
    rotate_left
    · simp only [Act.put, List.setIfInBounds_toArray, List.set_cons_zero, List.set_cons_succ, i64_w, i32_w]
      rfl
    refine one_ (i := 7) (N := some 130) #[true, true, true, true, true, true, true, true, false, false, false, false, false, false] rfl rfl (one_of HT_.out (by kernel_rfl)) (by decide) (fun K hK => ?_)
    refine goes_ Tryd.func29 (by kernel_rfl) rfl #[.slice A0 l0.length c0, .int .i64 10] (by rfl) rfl rfl (by (try simp only [List.map_toArray, List.map_cons, List.map_nil]); first | done | rfl) ?_
    have HB0 := Aside0.mk (below_drew1 HB.out)
    with_reducible refine (laws_vAt.calls A0 c0 l0 10 v10 _ (Kd.C_below HR0.out (below_step HB1.out HB0.out)) HC0.out F13.out).mono ?_
    rintro e W4 ⟨rfl, hd⟩
    refine ⟨_, rfl, ?_⟩
    have HB4 := Aside0.mk (below_step HB0.out hd.below)
    have BLK4 := (HB4.out.block G (by rw [hz1]; omega)).trans BLK
    have hz4 := HB4.out.size
    clear hd
    refine hK.out _ _ BLK4 (fun hHeld => ?_)
    clear hK K
    refine norm_ (a' := ?_) ?_ ?_
    rotate_left
    · show Act.put _ (some 130) _ = _
      simp only [Act.put, List.setIfInBounds_toArray, List.set_cons_zero, List.set_cons_succ, i64_w, i32_w]
      rfl
    refine pure_ (i := 8) (N := some 131) (v := ?_) (a' := ?_) #[true, true, true, true, true, true, true, true, true, false, false, false, false, false] rfl rfl (any_of HT_.out (by kernel_rfl)) (fun _ _ _ h => h) (Or.inl ⟨by rfl, ?_⟩) ?_ ?_
    rotate_left
    · intro w'
      go_simp
      with_reducible rfl
    rotate_left
    · simp only [Act.put, List.setIfInBounds_toArray, List.set_cons_zero, List.set_cons_succ, i64_w, i32_w]
      rfl
    refine pure_ (i := 9) (N := some 132) (v := ?_) (a' := ?_) #[true, true, true, true, true, true, true, true, true, true, false, false, false, false] rfl rfl (any_of HT_.out (by kernel_rfl)) (fun _ _ _ h => h) (Or.inl ⟨by rfl, ?_⟩) ?_ ?_
    rotate_left
    · intro w'
      go_simp
      with_reducible rfl
    rotate_left
    · simp only [Act.put, List.setIfInBounds_toArray, List.set_cons_zero, List.set_cons_succ, i64_w, i32_w]
      rfl
    refine pure_ (i := 10) (N := some 133) (v := ?_) (a' := ?_) #[true, true, true, true, true, true, true, true, true, true, true, false, false, false] rfl rfl (any_of HT_.out (by kernel_rfl)) (fun _ _ _ h => h) (Or.inl ⟨by rfl, ?_⟩) ?_ ?_
    rotate_left
    · intro w'
      go_simp
      with_reducible rfl
    rotate_left
    · simp only [Act.put, List.setIfInBounds_toArray, List.set_cons_zero, List.set_cons_succ, i64_w, i32_w]
      rfl
    refine pure_ (i := 11) (N := some 134) (v := ?_) (a' := ?_) #[true, true, true, true, true, true, true, true, true, true, true, true, false, false] rfl rfl (any_of HT_.out (by kernel_rfl)) (fun _ _ _ h => h) (Or.inl ⟨by rfl, ?_⟩) ?_ ?_
    rotate_left
    · intro w'
      go_simp
      with_reducible rfl
    rotate_left
    · simp only [Act.put, List.setIfInBounds_toArray, List.set_cons_zero, List.set_cons_succ, i64_w, i32_w]
      rfl
    refine pure_ (i := 12) (N := some 135) (v := ?_) (a' := ?_) #[true, true, true, true, true, true, true, true, true, true, true, true, true, false] rfl rfl (any_of HT_.out (by kernel_rfl)) (fun _ _ _ h => h) (Or.inl ⟨by rfl, ?_⟩) ?_ ?_
    rotate_left
    · intro w'
      go_simp
      with_reducible rfl
    rotate_left
    · simp only [Act.put, List.setIfInBounds_toArray, List.set_cons_zero, List.set_cons_succ, i64_w, i32_w]
      rfl
    have hcell : W4.cell? ⟨G, kx, none⟩ = some (.int .u8 b0) := (cell_of_row W4 G kx cs 5 _ BLK4).trans ((CS kx hkl).trans (by rw [hb0]))
    have hfroz : W4.frozen? ⟨G, kx, none⟩ = false := by simp [World.frozen?, BLK4]; omega
    refine last_ (i := 13) (N := none) #[true, true, true, true, true, true, true, true, true, true, true, true, true, true] rfl rfl (one_of HT_.out (by kernel_rfl)) (by decide) (fun K hK => ?_)
    refine skip_ (w1 := ?_) (by rfl) rfl ?_ ?_
    rotate_left
    · go_simp
      rfl
    refine hK.out _ _ ?_
    clear hK K
    refine done_ (done_of HT_.out (by kernel_rfl)) ?_
    have hx0' : bits BinOp.xor IntKind.u8 b0 (IntKind.u8.wrap (wrap64 (1 + v10.tmod 255))) = x0 := hx0
    rw [hx0']
    have hst := string_of_reads (P := Tryd.prog) (c := c) Tryd.underlying35 Tryd.underlying5 Tryd.underlying9 (set_reads (W2 := W4.setCell ⟨G, kx, none⟩ (.int .u8 x0)) (kx := kx) (x := x0) CS (nums8_len y) (by omega) (fun j hj => (set_cell BLK4 (by omega) (.int .u8 x0) j).trans (by rw [cell_of_row W4 G j cs 5 _ BLK4])))
    have HBn := Aside0.mk ((below_step HB1.out HB4.out).trans (Below.setCell_ W4 ⟨G, kx, none⟩ (.int .u8 x0) GE))
    generalize W4.setCell ⟨G, kx, none⟩ (.int .u8 x0) = W5 at hst HBn ⊢
    clear HB HT HB1 HB0 HB4 BLK BLK3 BLK4 HT3 hHeld hcell hfroz hcv
    have HB := HBn
    have HT := Aside0.mk (Tabs.below HT00.out HB.out)
    clear HBn HT00
    go_wp2_with (first | (go_at_call 24; (with_reducible refine (impl_VerifyChecksum.calls k _ z2 false _ F14.out HT.out).mono ?_); rintro e w' ⟨rfl, hb⟩; have HBn := Aside0.mk (below_step HB.out hb); have HTn := Aside0.mk (Tabs.below HT.out hb); clear HB HT; have HB := HBn; have HT := HTn; clear HBn HTn hb))
    go_ret
    exact ⟨by first | rfl | (simp; done), HB.out⟩
def laws_FnStrings.Facts (k : Nat) (l0 : List Int) : Prop :=
  laws_vBig.f l0 = some true ∨ ∃ (n : Int) (s : ByteArray) (ok : Bool) (t : ByteArray) (m : Int) (fine : Bool) (x y : ByteArray) (sealed : Bool) (bk : Int) (th : Bool), laws_vBig.f l0 = some false ∧ spec_DrawFormatInt.f l0 = some n ∧ impl_FormatInt.f n = some (s, ok) ∧ spec_FormatInt.f k n = some (s, ok) ∧ spec_DrawParseInt.f k l0 = some t ∧ impl_ParseInt.f t = some (m, fine) ∧ spec_ParseInt.f k t = some (m, fine) ∧ spec_DrawAppendChecksum.f l0 = some x ∧ impl_AppendChecksum.f k x = some (y, sealed) ∧ spec_AppendChecksum.f k x = some (y, sealed) ∧ impl_ParseInt.f s = some (bk, th) ∧ (ok = false ∨ (th = true ∧ bk = n)) ∧ ((sealed = false ∧ y = ⟨#[]⟩) ∨ (sealed = true ∧ ∃ (v9 v10 : Int) (kx : Nat) (b0 x0 : Int) (z2 : ByteArray), impl_VerifyChecksum.f k y = some (x, true) ∧ laws_vAt.f l0 9 = some v9 ∧ laws_vAt.f l0 10 = some v10 ∧ impl_VerifyChecksum.f k (strOfNums ((nums8 y).set kx x0)) = some (z2, false) ∧ 0 < y.size ∧ y.size ≤ 4010 ∧ Int.tmod v9 (y.size : Int) = (kx : Int) ∧ kx < y.size ∧ (nums8 y).getD kx 0 = b0 ∧ XV b0 v10 = x0))
theorem laws_FnStrings.calls (k : Nat) (A0 : Option Addr) (c0 : Nat) (l0 : List Int) (w : World) (hr0 : Kd.C (Kd.int .u8) w A0 l0.length l0) (hc0 : l0.length ≤ c0) (h : laws_FnStrings.Facts k l0) (hT : Tabs true true true w) :
    Calls Tryd.prog 8 #[.slice A0 l0.length c0] w fun e w' => e = .returned (.bool true) ∧ Below w.heap.size w w' := by
  rcases h with h0 | ⟨n, s, ok, t, m, fine, x, y, sealed, bk, th, f0, f1, f2, f3, f4, f5, f6, f7, f8, f9, f10, hbk, ⟨hs, hy⟩ | ⟨hs, v9, v10, kx, b0, x0, z2, f11, f12, f13, f14, hy0, hy1, hkx, hkl, hb0, hx0⟩⟩
  · exact laws_FnStrings.big A0 c0 l0 w hr0 hc0 hT h0
  · exact laws_FnStrings.plain k A0 c0 l0 w hr0 hc0 hT n s ok t m fine x y sealed bk th f0 f1 f2 f3 f4 f5 f6 f7 f8 f9 f10 hbk hs hy
  · exact laws_FnStrings.sealed k A0 c0 l0 w hr0 hc0 hT n s ok t m fine x y sealed bk th f0 f1 f2 f3 f4 f5 f6 f7 f8 f9 f10 hbk hs v9 v10 kx b0 x0 z2 f11 f12 f13 f14 hy0 hy1 hkx hkl hb0 hx0
end Go.Proofs.YtbdbogpmnmcaeaaDoor.PFnStrings
