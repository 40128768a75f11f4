/-
  No cell of these rows narrows 'for every input' (looked for: loops, veiled, ifaces, maps, wideKeys, modest, calm, conditions, laid).
  DERIVED. THE GIVEN ROWS OF THIS SEAT. 12 by the template 'for every input the law returns true; each argument reads behind the call as it read before'; 0 by the template 'total and deterministic' (their statements: YtmlapbkejnollaaTotals.lean).
  GIVEN WITH THE SEED: the statements are not yours to turn. If you find one false, say at which input.
  Laid BY PROGRAM, IN A SANDBOX (cutbox-rows.mjs): the forced cells as the released guide's own fill.sh prints them over the translation 89a7db6361485f06… (all of the seat's roots in one cut). By AI agents, Wed Nov 11 2026. No macro, syntax, notation, axiom, sorry.
-/
import Derived.Test.YtmlapbkejnollaaChecked
import GoSem.Claim
import GoSem.ClaimJoined
import GoSem.ClaimMapViews
import Derived.JoinedTies
import Derived.KernelRfl
namespace Go.Proofs.Ytmlapbkejnollaa
/- THE CELL 'sum', in the pinned program and in every row, IS THE sha256 OF THE DUMP (.gsa) THAT YtmlapbkejnollaaProg.lean LOADS. Nothing in Lean hashes anything: it is a label: what it is worth is what the hold of that sum in a sandbox is worth. -/
noncomputable def Try.pinned : Pinned := { name := "ytmlapbkejnollaa", sum := "89a7db6361485f06552bb5fc4cb976a604536c6b82a8ce8b2751462fe9aae580", checked := Try.checked }
namespace Rows
def none {H : Type} : Left H := { results := [], args := [] }

/-- 'laws.FnExactIsCase': WHATEVER THE INPUT: true; the input reads as it did. -/
def fnExactIsCaseSpec : ChangeSpec := { name := "fnExactIsCase", fn := fun _ => fun
  | [d] => { results := [.lit (.bool true)], args := [d] }
  | _ => none }
def fnExactIsCaseRow : OpenClaim := { program := "ytmlapbkejnollaa", sum := "89a7db6361485f06552bb5fc4cb976a604536c6b82a8ce8b2751462fe9aae580", func := "loop.example/g01111/laws.FnExactIsCase", spec := "fnExactIsCase", apart := false }
def FnExactIsCaseSaid : Prop := fnExactIsCaseRow.holds Try.pinned (OpenSpec.ofChange fnExactIsCaseSpec)

/-- ITS FALSE NEIGHBOUR: 'it returns false'. Refute it at one input. -/
def fnExactIsCaseWrong : ChangeSpec := { name := "fnExactIsCase", fn := fun _ => fun
  | [d] => { results := [.lit (.bool false)], args := [d] }
  | _ => none }
def FnExactIsCaseWrongFalsely : Prop := fnExactIsCaseRow.holds Try.pinned (OpenSpec.ofChange fnExactIsCaseWrong)

/-- 'laws.FnExactWaitsNever': WHATEVER THE INPUT: true; the input reads as it did. -/
def fnExactWaitsNeverSpec : ChangeSpec := { name := "fnExactWaitsNever", fn := fun _ => fun
  | [d] => { results := [.lit (.bool true)], args := [d] }
  | _ => none }
def fnExactWaitsNeverRow : OpenClaim := { program := "ytmlapbkejnollaa", sum := "89a7db6361485f06552bb5fc4cb976a604536c6b82a8ce8b2751462fe9aae580", func := "loop.example/g01111/laws.FnExactWaitsNever", spec := "fnExactWaitsNever", apart := false }
def FnExactWaitsNeverSaid : Prop := fnExactWaitsNeverRow.holds Try.pinned (OpenSpec.ofChange fnExactWaitsNeverSpec)

/-- ITS FALSE NEIGHBOUR: 'it returns false'. Refute it at one input. -/
def fnExactWaitsNeverWrong : ChangeSpec := { name := "fnExactWaitsNever", fn := fun _ => fun
  | [d] => { results := [.lit (.bool false)], args := [d] }
  | _ => none }
def FnExactWaitsNeverWrongFalsely : Prop := fnExactWaitsNeverRow.holds Try.pinned (OpenSpec.ofChange fnExactWaitsNeverWrong)

/-- 'laws.FnExactRateOf': WHATEVER THE INPUT: true; the input reads as it did. -/
def fnExactRateOfSpec : ChangeSpec := { name := "fnExactRateOf", fn := fun _ => fun
  | [d1, d2, d3] => { results := [.lit (.bool true)], args := [d1, d2, d3] }
  | _ => none }
def fnExactRateOfRow : OpenClaim := { program := "ytmlapbkejnollaa", sum := "89a7db6361485f06552bb5fc4cb976a604536c6b82a8ce8b2751462fe9aae580", func := "loop.example/g01111/laws.FnExactRateOf", spec := "fnExactRateOf", apart := false }
def FnExactRateOfSaid : Prop := fnExactRateOfRow.holds Try.pinned (OpenSpec.ofChange fnExactRateOfSpec)

/-- ITS FALSE NEIGHBOUR: 'it returns false'. Refute it at one input. -/
def fnExactRateOfWrong : ChangeSpec := { name := "fnExactRateOf", fn := fun _ => fun
  | [d1, d2, d3] => { results := [.lit (.bool false)], args := [d1, d2, d3] }
  | _ => none }
def FnExactRateOfWrongFalsely : Prop := fnExactRateOfRow.holds Try.pinned (OpenSpec.ofChange fnExactRateOfWrong)

/-- 'laws.FnExactIsLatePlan': WHATEVER THE INPUT: true; the input reads as it did. -/
def fnExactIsLatePlanSpec : ChangeSpec := { name := "fnExactIsLatePlan", fn := fun _ => fun
  | [d1, d2] => { results := [.lit (.bool true)], args := [d1, d2] }
  | _ => none }
def fnExactIsLatePlanRow : OpenClaim := { program := "ytmlapbkejnollaa", sum := "89a7db6361485f06552bb5fc4cb976a604536c6b82a8ce8b2751462fe9aae580", func := "loop.example/g01111/laws.FnExactIsLatePlan", spec := "fnExactIsLatePlan", apart := false }
def FnExactIsLatePlanSaid : Prop := fnExactIsLatePlanRow.holds Try.pinned (OpenSpec.ofChange fnExactIsLatePlanSpec)

/-- ITS FALSE NEIGHBOUR: 'it returns false'. Refute it at one input. -/
def fnExactIsLatePlanWrong : ChangeSpec := { name := "fnExactIsLatePlan", fn := fun _ => fun
  | [d1, d2] => { results := [.lit (.bool false)], args := [d1, d2] }
  | _ => none }
def FnExactIsLatePlanWrongFalsely : Prop := fnExactIsLatePlanRow.holds Try.pinned (OpenSpec.ofChange fnExactIsLatePlanWrong)

/-- 'laws.FnExactLotForLot': WHATEVER THE INPUT: true; the input reads as it did. -/
def fnExactLotForLotSpec : ChangeSpec := { name := "fnExactLotForLot", fn := fun _ => fun
  | [d] => { results := [.lit (.bool true)], args := [d] }
  | _ => none }
def fnExactLotForLotRow : OpenClaim := { program := "ytmlapbkejnollaa", sum := "89a7db6361485f06552bb5fc4cb976a604536c6b82a8ce8b2751462fe9aae580", func := "loop.example/g01111/laws.FnExactLotForLot", spec := "fnExactLotForLot", apart := false }
def FnExactLotForLotSaid : Prop := fnExactLotForLotRow.holds Try.pinned (OpenSpec.ofChange fnExactLotForLotSpec)

/-- ITS FALSE NEIGHBOUR: 'it returns false'. Refute it at one input. -/
def fnExactLotForLotWrong : ChangeSpec := { name := "fnExactLotForLot", fn := fun _ => fun
  | [d] => { results := [.lit (.bool false)], args := [d] }
  | _ => none }
def FnExactLotForLotWrongFalsely : Prop := fnExactLotForLotRow.holds Try.pinned (OpenSpec.ofChange fnExactLotForLotWrong)

/-- 'laws.FnExactCanMeet': WHATEVER THE INPUT: true; the input reads as it did. -/
def fnExactCanMeetSpec : ChangeSpec := { name := "fnExactCanMeet", fn := fun _ => fun
  | [d1, d2] => { results := [.lit (.bool true)], args := [d1, d2] }
  | _ => none }
def fnExactCanMeetRow : OpenClaim := { program := "ytmlapbkejnollaa", sum := "89a7db6361485f06552bb5fc4cb976a604536c6b82a8ce8b2751462fe9aae580", func := "loop.example/g01111/laws.FnExactCanMeet", spec := "fnExactCanMeet", apart := false }
def FnExactCanMeetSaid : Prop := fnExactCanMeetRow.holds Try.pinned (OpenSpec.ofChange fnExactCanMeetSpec)

/-- ITS FALSE NEIGHBOUR: 'it returns false'. Refute it at one input. -/
def fnExactCanMeetWrong : ChangeSpec := { name := "fnExactCanMeet", fn := fun _ => fun
  | [d1, d2] => { results := [.lit (.bool false)], args := [d1, d2] }
  | _ => none }
def FnExactCanMeetWrongFalsely : Prop := fnExactCanMeetRow.holds Try.pinned (OpenSpec.ofChange fnExactCanMeetWrong)

/-- 'laws.FnExactSpanCost': WHATEVER THE INPUT: true; the input reads as it did. -/
def fnExactSpanCostSpec : ChangeSpec := { name := "fnExactSpanCost", fn := fun _ => fun
  | [d1, d2, d3] => { results := [.lit (.bool true)], args := [d1, d2, d3] }
  | _ => none }
def fnExactSpanCostRow : OpenClaim := { program := "ytmlapbkejnollaa", sum := "89a7db6361485f06552bb5fc4cb976a604536c6b82a8ce8b2751462fe9aae580", func := "loop.example/g01111/laws.FnExactSpanCost", spec := "fnExactSpanCost", apart := false }
def FnExactSpanCostSaid : Prop := fnExactSpanCostRow.holds Try.pinned (OpenSpec.ofChange fnExactSpanCostSpec)

/-- ITS FALSE NEIGHBOUR: 'it returns false'. Refute it at one input. -/
def fnExactSpanCostWrong : ChangeSpec := { name := "fnExactSpanCost", fn := fun _ => fun
  | [d1, d2, d3] => { results := [.lit (.bool false)], args := [d1, d2, d3] }
  | _ => none }
def FnExactSpanCostWrongFalsely : Prop := fnExactSpanCostRow.holds Try.pinned (OpenSpec.ofChange fnExactSpanCostWrong)

/-- 'laws.FnExactFirstShort': WHATEVER THE INPUT: true; the input reads as it did. -/
def fnExactFirstShortSpec : ChangeSpec := { name := "fnExactFirstShort", fn := fun _ => fun
  | [d1, d2] => { results := [.lit (.bool true)], args := [d1, d2] }
  | _ => none }
def fnExactFirstShortRow : OpenClaim := { program := "ytmlapbkejnollaa", sum := "89a7db6361485f06552bb5fc4cb976a604536c6b82a8ce8b2751462fe9aae580", func := "loop.example/g01111/laws.FnExactFirstShort", spec := "fnExactFirstShort", apart := false }
def FnExactFirstShortSaid : Prop := fnExactFirstShortRow.holds Try.pinned (OpenSpec.ofChange fnExactFirstShortSpec)

/-- ITS FALSE NEIGHBOUR: 'it returns false'. Refute it at one input. -/
def fnExactFirstShortWrong : ChangeSpec := { name := "fnExactFirstShort", fn := fun _ => fun
  | [d1, d2] => { results := [.lit (.bool false)], args := [d1, d2] }
  | _ => none }
def FnExactFirstShortWrongFalsely : Prop := fnExactFirstShortRow.holds Try.pinned (OpenSpec.ofChange fnExactFirstShortWrong)

/-- 'laws.FnExactCutCase': WHATEVER THE INPUT: true; the input reads as it did. -/
def fnExactCutCaseSpec : ChangeSpec := { name := "fnExactCutCase", fn := fun _ => fun
  | [d1, d2, d3] => { results := [.lit (.bool true)], args := [d1, d2, d3] }
  | _ => none }
def fnExactCutCaseRow : OpenClaim := { program := "ytmlapbkejnollaa", sum := "89a7db6361485f06552bb5fc4cb976a604536c6b82a8ce8b2751462fe9aae580", func := "loop.example/g01111/laws.FnExactCutCase", spec := "fnExactCutCase", apart := false }
def FnExactCutCaseSaid : Prop := fnExactCutCaseRow.holds Try.pinned (OpenSpec.ofChange fnExactCutCaseSpec)

/-- ITS FALSE NEIGHBOUR: 'it returns false'. Refute it at one input. -/
def fnExactCutCaseWrong : ChangeSpec := { name := "fnExactCutCase", fn := fun _ => fun
  | [d1, d2, d3] => { results := [.lit (.bool false)], args := [d1, d2, d3] }
  | _ => none }
def FnExactCutCaseWrongFalsely : Prop := fnExactCutCaseRow.holds Try.pinned (OpenSpec.ofChange fnExactCutCaseWrong)

/-- 'laws.FnExactAreFair': WHATEVER THE INPUT: true; the input reads as it did. -/
def fnExactAreFairSpec : ChangeSpec := { name := "fnExactAreFair", fn := fun _ => fun
  | [d1, d2] => { results := [.lit (.bool true)], args := [d1, d2] }
  | _ => none }
def fnExactAreFairRow : OpenClaim := { program := "ytmlapbkejnollaa", sum := "89a7db6361485f06552bb5fc4cb976a604536c6b82a8ce8b2751462fe9aae580", func := "loop.example/g01111/laws.FnExactAreFair", spec := "fnExactAreFair", apart := false }
def FnExactAreFairSaid : Prop := fnExactAreFairRow.holds Try.pinned (OpenSpec.ofChange fnExactAreFairSpec)

/-- ITS FALSE NEIGHBOUR: 'it returns false'. Refute it at one input. -/
def fnExactAreFairWrong : ChangeSpec := { name := "fnExactAreFair", fn := fun _ => fun
  | [d1, d2] => { results := [.lit (.bool false)], args := [d1, d2] }
  | _ => none }
def FnExactAreFairWrongFalsely : Prop := fnExactAreFairRow.holds Try.pinned (OpenSpec.ofChange fnExactAreFairWrong)

/-- 'laws.FnExactOwedPeriods': WHATEVER THE INPUT: true; the input reads as it did. -/
def fnExactOwedPeriodsSpec : ChangeSpec := { name := "fnExactOwedPeriods", fn := fun _ => fun
  | [d1, d2] => { results := [.lit (.bool true)], args := [d1, d2] }
  | _ => none }
def fnExactOwedPeriodsRow : OpenClaim := { program := "ytmlapbkejnollaa", sum := "89a7db6361485f06552bb5fc4cb976a604536c6b82a8ce8b2751462fe9aae580", func := "loop.example/g01111/laws.FnExactOwedPeriods", spec := "fnExactOwedPeriods", apart := false }
def FnExactOwedPeriodsSaid : Prop := fnExactOwedPeriodsRow.holds Try.pinned (OpenSpec.ofChange fnExactOwedPeriodsSpec)

/-- ITS FALSE NEIGHBOUR: 'it returns false'. Refute it at one input. -/
def fnExactOwedPeriodsWrong : ChangeSpec := { name := "fnExactOwedPeriods", fn := fun _ => fun
  | [d1, d2] => { results := [.lit (.bool false)], args := [d1, d2] }
  | _ => none }
def FnExactOwedPeriodsWrongFalsely : Prop := fnExactOwedPeriodsRow.holds Try.pinned (OpenSpec.ofChange fnExactOwedPeriodsWrong)

/-- 'laws.FnExactLateCost': WHATEVER THE INPUT: true; the input reads as it did. -/
def fnExactLateCostSpec : ChangeSpec := { name := "fnExactLateCost", fn := fun _ => fun
  | [d1, d2, d3] => { results := [.lit (.bool true)], args := [d1, d2, d3] }
  | _ => none }
def fnExactLateCostRow : OpenClaim := { program := "ytmlapbkejnollaa", sum := "89a7db6361485f06552bb5fc4cb976a604536c6b82a8ce8b2751462fe9aae580", func := "loop.example/g01111/laws.FnExactLateCost", spec := "fnExactLateCost", apart := false }
def FnExactLateCostSaid : Prop := fnExactLateCostRow.holds Try.pinned (OpenSpec.ofChange fnExactLateCostSpec)

/-- ITS FALSE NEIGHBOUR: 'it returns false'. Refute it at one input. -/
def fnExactLateCostWrong : ChangeSpec := { name := "fnExactLateCost", fn := fun _ => fun
  | [d1, d2, d3] => { results := [.lit (.bool false)], args := [d1, d2, d3] }
  | _ => none }
def FnExactLateCostWrongFalsely : Prop := fnExactLateCostRow.holds Try.pinned (OpenSpec.ofChange fnExactLateCostWrong)

/- THE SECOND FORM. 'bulk': how many values and letters a reading holds, each counted each time it is reached (what is shared counts as often as it is met; a slice's spare places count too). A statement '..UptoSaid' is the law's where the arguments, and the package variables that the reading takes, are together of bulk at most 1048576: NARROWER than '..Said'. Prove '..Said' where nothing that the law and all that it calls make is longer than what came in: it says more and counts as full. Else prove '..UptoSaid'. A law counts once. -/
mutual
def uptoBulk {H : Type} : DataW H → Nat
  | .lit (.string bytes) => bytes.length + 1
  | .lit _ => 1
  | .nil => 1
  | .ptr d => uptoBulk d + 1
  | .slice elems spare => uptoBulkAll elems + uptoBulkAll spare + 1
  | .agg parts => uptoBulkAll parts + 1
  | .iface _ d => uptoBulk d + 1
  | .map entries => uptoBulkEntries entries + 1
  | .held _ => 1
def uptoBulkAll {H : Type} : List (DataW H) → Nat
  | [] => 0
  | d :: r => uptoBulk d + uptoBulkAll r
def uptoBulkEntries {H : Type} : List (Lit × DataW H) → Nat
  | [] => 0
  | x :: r => uptoBulkEntry x + uptoBulkEntries r
def uptoBulkEntry {H : Type} : Lit × DataW H → Nat
  | (.string bytes, d) => bytes.length + uptoBulk d + 1
  | (_, d) => uptoBulk d + 1
 end
def uptoSmall : (H : Type) → List (DataW H) → Bool := fun _ ds => decide (uptoBulkAll ds ≤ 1048576)
def OpenSpec.upto (s : _root_.Go.ChangeSpec) : _root_.Go.OpenSpec := { _root_.Go.OpenSpec.ofChange s with cond := some uptoSmall }

/-- 'laws.FnExactIsCase', WHERE WHAT IT READS IS OF BULK AT MOST 1048576: true; the input reads as it did. -/
def fnExactIsCaseUptoRow : OpenClaim := { program := "ytmlapbkejnollaa", sum := "89a7db6361485f06552bb5fc4cb976a604536c6b82a8ce8b2751462fe9aae580", func := "loop.example/g01111/laws.FnExactIsCase", spec := "fnExactIsCase", apart := false, narrowed := true }
def FnExactIsCaseUptoSaid : Prop := fnExactIsCaseUptoRow.holds Try.pinned (OpenSpec.upto fnExactIsCaseSpec)

/-- 'laws.FnExactWaitsNever', WHERE WHAT IT READS IS OF BULK AT MOST 1048576: true; the input reads as it did. -/
def fnExactWaitsNeverUptoRow : OpenClaim := { program := "ytmlapbkejnollaa", sum := "89a7db6361485f06552bb5fc4cb976a604536c6b82a8ce8b2751462fe9aae580", func := "loop.example/g01111/laws.FnExactWaitsNever", spec := "fnExactWaitsNever", apart := false, narrowed := true }
def FnExactWaitsNeverUptoSaid : Prop := fnExactWaitsNeverUptoRow.holds Try.pinned (OpenSpec.upto fnExactWaitsNeverSpec)

/-- 'laws.FnExactRateOf', WHERE WHAT IT READS IS OF BULK AT MOST 1048576: true; the input reads as it did. -/
def fnExactRateOfUptoRow : OpenClaim := { program := "ytmlapbkejnollaa", sum := "89a7db6361485f06552bb5fc4cb976a604536c6b82a8ce8b2751462fe9aae580", func := "loop.example/g01111/laws.FnExactRateOf", spec := "fnExactRateOf", apart := false, narrowed := true }
def FnExactRateOfUptoSaid : Prop := fnExactRateOfUptoRow.holds Try.pinned (OpenSpec.upto fnExactRateOfSpec)

/-- 'laws.FnExactIsLatePlan', WHERE WHAT IT READS IS OF BULK AT MOST 1048576: true; the input reads as it did. -/
def fnExactIsLatePlanUptoRow : OpenClaim := { program := "ytmlapbkejnollaa", sum := "89a7db6361485f06552bb5fc4cb976a604536c6b82a8ce8b2751462fe9aae580", func := "loop.example/g01111/laws.FnExactIsLatePlan", spec := "fnExactIsLatePlan", apart := false, narrowed := true }
def FnExactIsLatePlanUptoSaid : Prop := fnExactIsLatePlanUptoRow.holds Try.pinned (OpenSpec.upto fnExactIsLatePlanSpec)

/-- 'laws.FnExactLotForLot', WHERE WHAT IT READS IS OF BULK AT MOST 1048576: true; the input reads as it did. -/
def fnExactLotForLotUptoRow : OpenClaim := { program := "ytmlapbkejnollaa", sum := "89a7db6361485f06552bb5fc4cb976a604536c6b82a8ce8b2751462fe9aae580", func := "loop.example/g01111/laws.FnExactLotForLot", spec := "fnExactLotForLot", apart := false, narrowed := true }
def FnExactLotForLotUptoSaid : Prop := fnExactLotForLotUptoRow.holds Try.pinned (OpenSpec.upto fnExactLotForLotSpec)

/-- 'laws.FnExactCanMeet', WHERE WHAT IT READS IS OF BULK AT MOST 1048576: true; the input reads as it did. -/
def fnExactCanMeetUptoRow : OpenClaim := { program := "ytmlapbkejnollaa", sum := "89a7db6361485f06552bb5fc4cb976a604536c6b82a8ce8b2751462fe9aae580", func := "loop.example/g01111/laws.FnExactCanMeet", spec := "fnExactCanMeet", apart := false, narrowed := true }
def FnExactCanMeetUptoSaid : Prop := fnExactCanMeetUptoRow.holds Try.pinned (OpenSpec.upto fnExactCanMeetSpec)

/-- 'laws.FnExactSpanCost', WHERE WHAT IT READS IS OF BULK AT MOST 1048576: true; the input reads as it did. -/
def fnExactSpanCostUptoRow : OpenClaim := { program := "ytmlapbkejnollaa", sum := "89a7db6361485f06552bb5fc4cb976a604536c6b82a8ce8b2751462fe9aae580", func := "loop.example/g01111/laws.FnExactSpanCost", spec := "fnExactSpanCost", apart := false, narrowed := true }
def FnExactSpanCostUptoSaid : Prop := fnExactSpanCostUptoRow.holds Try.pinned (OpenSpec.upto fnExactSpanCostSpec)

/-- 'laws.FnExactFirstShort', WHERE WHAT IT READS IS OF BULK AT MOST 1048576: true; the input reads as it did. -/
def fnExactFirstShortUptoRow : OpenClaim := { program := "ytmlapbkejnollaa", sum := "89a7db6361485f06552bb5fc4cb976a604536c6b82a8ce8b2751462fe9aae580", func := "loop.example/g01111/laws.FnExactFirstShort", spec := "fnExactFirstShort", apart := false, narrowed := true }
def FnExactFirstShortUptoSaid : Prop := fnExactFirstShortUptoRow.holds Try.pinned (OpenSpec.upto fnExactFirstShortSpec)

/-- 'laws.FnExactCutCase', WHERE WHAT IT READS IS OF BULK AT MOST 1048576: true; the input reads as it did. -/
def fnExactCutCaseUptoRow : OpenClaim := { program := "ytmlapbkejnollaa", sum := "89a7db6361485f06552bb5fc4cb976a604536c6b82a8ce8b2751462fe9aae580", func := "loop.example/g01111/laws.FnExactCutCase", spec := "fnExactCutCase", apart := false, narrowed := true }
def FnExactCutCaseUptoSaid : Prop := fnExactCutCaseUptoRow.holds Try.pinned (OpenSpec.upto fnExactCutCaseSpec)

/-- 'laws.FnExactAreFair', WHERE WHAT IT READS IS OF BULK AT MOST 1048576: true; the input reads as it did. -/
def fnExactAreFairUptoRow : OpenClaim := { program := "ytmlapbkejnollaa", sum := "89a7db6361485f06552bb5fc4cb976a604536c6b82a8ce8b2751462fe9aae580", func := "loop.example/g01111/laws.FnExactAreFair", spec := "fnExactAreFair", apart := false, narrowed := true }
def FnExactAreFairUptoSaid : Prop := fnExactAreFairUptoRow.holds Try.pinned (OpenSpec.upto fnExactAreFairSpec)

/-- 'laws.FnExactOwedPeriods', WHERE WHAT IT READS IS OF BULK AT MOST 1048576: true; the input reads as it did. -/
def fnExactOwedPeriodsUptoRow : OpenClaim := { program := "ytmlapbkejnollaa", sum := "89a7db6361485f06552bb5fc4cb976a604536c6b82a8ce8b2751462fe9aae580", func := "loop.example/g01111/laws.FnExactOwedPeriods", spec := "fnExactOwedPeriods", apart := false, narrowed := true }
def FnExactOwedPeriodsUptoSaid : Prop := fnExactOwedPeriodsUptoRow.holds Try.pinned (OpenSpec.upto fnExactOwedPeriodsSpec)

/-- 'laws.FnExactLateCost', WHERE WHAT IT READS IS OF BULK AT MOST 1048576: true; the input reads as it did. -/
def fnExactLateCostUptoRow : OpenClaim := { program := "ytmlapbkejnollaa", sum := "89a7db6361485f06552bb5fc4cb976a604536c6b82a8ce8b2751462fe9aae580", func := "loop.example/g01111/laws.FnExactLateCost", spec := "fnExactLateCost", apart := false, narrowed := true }
def FnExactLateCostUptoSaid : Prop := fnExactLateCostUptoRow.holds Try.pinned (OpenSpec.upto fnExactLateCostSpec)

end Rows
end Go.Proofs.Ytmlapbkejnollaa
