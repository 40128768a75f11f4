/-
  No cell of these rows narrows 'for every input' (looked for: loops, veiled, ifaces, maps, wideKeys, modest, calm, conditions, laid).
  DERIVED. THE GIVEN ROWS OF THIS SEAT. 7 by the template 'for every input the law returns true; each argument reads behind the call as it read before'; 0 by the template 'total and deterministic' (their statements: YtnojmhcmngejnaaTotals.lean).
  GIVEN WITH THE SEED: the statements are not yours to turn. If you find one false, say at which input.
  Laid BY PROGRAM, IN A SANDBOX (cutbox-rows.mjs): the forced cells as the released guide's own fill.sh prints them over the translation 4421e6e8aa989f03… (all of the seat's roots in one cut). By AI agents, Wed Nov 11 2026. No macro, syntax, notation, axiom, sorry.
-/
import Derived.Test.YtnojmhcmngejnaaChecked
import GoSem.Claim
import GoSem.ClaimJoined
import GoSem.ClaimMapViews
import Derived.JoinedTies
import Derived.KernelRfl
namespace Go.Proofs.Ytnojmhcmngejnaa
/- THE CELL 'sum', in the pinned program and in every row, IS THE sha256 OF THE DUMP (.gsa) THAT YtnojmhcmngejnaaProg.lean LOADS. Nothing in Lean hashes anything: it is a label: what it is worth is what the hold of that sum in a sandbox is worth. -/
noncomputable def Try.pinned : Pinned := { name := "ytnojmhcmngejnaa", sum := "4421e6e8aa989f0342aee87003795f1c1c170f0761e378b6eb9ef98cb84342e6", checked := Try.checked }
namespace Rows
def none {H : Type} : Left H := { results := [], args := [] }

/-- 'laws.FnExactConstants': WHATEVER THE INPUT: true; the input reads as it did. -/
def fnExactConstantsSpec : ChangeSpec := { name := "fnExactConstants", fn := fun _ => fun
  | [] => { results := [.lit (.bool true)], args := [] }
  | _ => none }
def fnExactConstantsRow : OpenClaim := { program := "ytnojmhcmngejnaa", sum := "4421e6e8aa989f0342aee87003795f1c1c170f0761e378b6eb9ef98cb84342e6", func := "loop.example/g01111/laws.FnExactConstants", spec := "fnExactConstants", apart := false }
def FnExactConstantsSaid : Prop := fnExactConstantsRow.holds Try.pinned (OpenSpec.ofChange fnExactConstantsSpec)

/-- ITS FALSE NEIGHBOUR: 'it returns false'. Refute it at one input. -/
def fnExactConstantsWrong : ChangeSpec := { name := "fnExactConstants", fn := fun _ => fun
  | [] => { results := [.lit (.bool false)], args := [] }
  | _ => none }
def FnExactConstantsWrongFalsely : Prop := fnExactConstantsRow.holds Try.pinned (OpenSpec.ofChange fnExactConstantsWrong)

/-- 'laws.FnExactTriggerLevel': WHATEVER THE INPUT: true; the input reads as it did. -/
def fnExactTriggerLevelSpec : ChangeSpec := { name := "fnExactTriggerLevel", fn := fun _ => fun
  | [d1, d2, d3, d4, d5] => { results := [.lit (.bool true)], args := [d1, d2, d3, d4, d5] }
  | _ => none }
def fnExactTriggerLevelRow : OpenClaim := { program := "ytnojmhcmngejnaa", sum := "4421e6e8aa989f0342aee87003795f1c1c170f0761e378b6eb9ef98cb84342e6", func := "loop.example/g01111/laws.FnExactTriggerLevel", spec := "fnExactTriggerLevel", unfollowed := true, recurses := true, apart := false }
def FnExactTriggerLevelSaid : Prop := fnExactTriggerLevelRow.holds Try.pinned (OpenSpec.ofChange fnExactTriggerLevelSpec)

/-- ITS FALSE NEIGHBOUR: 'it returns false'. Refute it at one input. -/
def fnExactTriggerLevelWrong : ChangeSpec := { name := "fnExactTriggerLevel", fn := fun _ => fun
  | [d1, d2, d3, d4, d5] => { results := [.lit (.bool false)], args := [d1, d2, d3, d4, d5] }
  | _ => none }
def FnExactTriggerLevelWrongFalsely : Prop := fnExactTriggerLevelRow.holds Try.pinned (OpenSpec.ofChange fnExactTriggerLevelWrong)

/-- 'laws.FnExactBestOrders': WHATEVER THE INPUT: true; the input reads as it did. -/
def fnExactBestOrdersSpec : ChangeSpec := { name := "fnExactBestOrders", fn := fun _ => fun
  | [d1, d2, d3] => { results := [.lit (.bool true)], args := [d1, d2, d3] }
  | _ => none }
def fnExactBestOrdersRow : OpenClaim := { program := "ytnojmhcmngejnaa", sum := "4421e6e8aa989f0342aee87003795f1c1c170f0761e378b6eb9ef98cb84342e6", func := "loop.example/g01111/laws.FnExactBestOrders", spec := "fnExactBestOrders", unfollowed := true, recurses := true, apart := false }
def FnExactBestOrdersSaid : Prop := fnExactBestOrdersRow.holds Try.pinned (OpenSpec.ofChange fnExactBestOrdersSpec)

/-- ITS FALSE NEIGHBOUR: 'it returns false'. Refute it at one input. -/
def fnExactBestOrdersWrong : ChangeSpec := { name := "fnExactBestOrders", fn := fun _ => fun
  | [d1, d2, d3] => { results := [.lit (.bool false)], args := [d1, d2, d3] }
  | _ => none }
def FnExactBestOrdersWrongFalsely : Prop := fnExactBestOrdersRow.holds Try.pinned (OpenSpec.ofChange fnExactBestOrdersWrong)

/-- 'laws.FnExactStepOrders': WHATEVER THE INPUT: true; the input reads as it did. -/
def fnExactStepOrdersSpec : ChangeSpec := { name := "fnExactStepOrders", fn := fun _ => fun
  | [d1, d2, d3, d4] => { results := [.lit (.bool true)], args := [d1, d2, d3, d4] }
  | _ => none }
def fnExactStepOrdersRow : OpenClaim := { program := "ytnojmhcmngejnaa", sum := "4421e6e8aa989f0342aee87003795f1c1c170f0761e378b6eb9ef98cb84342e6", func := "loop.example/g01111/laws.FnExactStepOrders", spec := "fnExactStepOrders", unfollowed := true, recurses := true, apart := false }
def FnExactStepOrdersSaid : Prop := fnExactStepOrdersRow.holds Try.pinned (OpenSpec.ofChange fnExactStepOrdersSpec)

/-- ITS FALSE NEIGHBOUR: 'it returns false'. Refute it at one input. -/
def fnExactStepOrdersWrong : ChangeSpec := { name := "fnExactStepOrders", fn := fun _ => fun
  | [d1, d2, d3, d4] => { results := [.lit (.bool false)], args := [d1, d2, d3, d4] }
  | _ => none }
def FnExactStepOrdersWrongFalsely : Prop := fnExactStepOrdersRow.holds Try.pinned (OpenSpec.ofChange fnExactStepOrdersWrong)

/-- 'laws.FnExactBudgetOrders': WHATEVER THE INPUT: true; the input reads as it did. -/
def fnExactBudgetOrdersSpec : ChangeSpec := { name := "fnExactBudgetOrders", fn := fun _ => fun
  | [d1, d2, d3, d4, d5] => { results := [.lit (.bool true)], args := [d1, d2, d3, d4, d5] }
  | _ => none }
def fnExactBudgetOrdersRow : OpenClaim := { program := "ytnojmhcmngejnaa", sum := "4421e6e8aa989f0342aee87003795f1c1c170f0761e378b6eb9ef98cb84342e6", func := "loop.example/g01111/laws.FnExactBudgetOrders", spec := "fnExactBudgetOrders", unfollowed := true, recurses := true, apart := false }
def FnExactBudgetOrdersSaid : Prop := fnExactBudgetOrdersRow.holds Try.pinned (OpenSpec.ofChange fnExactBudgetOrdersSpec)

/-- ITS FALSE NEIGHBOUR: 'it returns false'. Refute it at one input. -/
def fnExactBudgetOrdersWrong : ChangeSpec := { name := "fnExactBudgetOrders", fn := fun _ => fun
  | [d1, d2, d3, d4, d5] => { results := [.lit (.bool false)], args := [d1, d2, d3, d4, d5] }
  | _ => none }
def FnExactBudgetOrdersWrongFalsely : Prop := fnExactBudgetOrdersRow.holds Try.pinned (OpenSpec.ofChange fnExactBudgetOrdersWrong)

/-- 'laws.FnExactLeastLate': WHATEVER THE INPUT: true; the input reads as it did. -/
def fnExactLeastLateSpec : ChangeSpec := { name := "fnExactLeastLate", fn := fun _ => fun
  | [d1, d2] => { results := [.lit (.bool true)], args := [d1, d2] }
  | _ => none }
def fnExactLeastLateRow : OpenClaim := { program := "ytnojmhcmngejnaa", sum := "4421e6e8aa989f0342aee87003795f1c1c170f0761e378b6eb9ef98cb84342e6", func := "loop.example/g01111/laws.FnExactLeastLate", spec := "fnExactLeastLate", unfollowed := true, recurses := true, apart := false }
def FnExactLeastLateSaid : Prop := fnExactLeastLateRow.holds Try.pinned (OpenSpec.ofChange fnExactLeastLateSpec)

/-- ITS FALSE NEIGHBOUR: 'it returns false'. Refute it at one input. -/
def fnExactLeastLateWrong : ChangeSpec := { name := "fnExactLeastLate", fn := fun _ => fun
  | [d1, d2] => { results := [.lit (.bool false)], args := [d1, d2] }
  | _ => none }
def FnExactLeastLateWrongFalsely : Prop := fnExactLeastLateRow.holds Try.pinned (OpenSpec.ofChange fnExactLeastLateWrong)

/-- 'laws.FnExactBestLatePlan': WHATEVER THE INPUT: true; the input reads as it did. -/
def fnExactBestLatePlanSpec : ChangeSpec := { name := "fnExactBestLatePlan", fn := fun _ => fun
  | [d1, d2] => { results := [.lit (.bool true)], args := [d1, d2] }
  | _ => none }
def fnExactBestLatePlanRow : OpenClaim := { program := "ytnojmhcmngejnaa", sum := "4421e6e8aa989f0342aee87003795f1c1c170f0761e378b6eb9ef98cb84342e6", func := "loop.example/g01111/laws.FnExactBestLatePlan", spec := "fnExactBestLatePlan", unfollowed := true, recurses := true, apart := false }
def FnExactBestLatePlanSaid : Prop := fnExactBestLatePlanRow.holds Try.pinned (OpenSpec.ofChange fnExactBestLatePlanSpec)

/-- ITS FALSE NEIGHBOUR: 'it returns false'. Refute it at one input. -/
def fnExactBestLatePlanWrong : ChangeSpec := { name := "fnExactBestLatePlan", fn := fun _ => fun
  | [d1, d2] => { results := [.lit (.bool false)], args := [d1, d2] }
  | _ => none }
def FnExactBestLatePlanWrongFalsely : Prop := fnExactBestLatePlanRow.holds Try.pinned (OpenSpec.ofChange fnExactBestLatePlanWrong)

/- THE SECOND FORM. 'bulk': how many values and letters a reading holds, each counted each time it is reached (what is shared counts as often as it is met; a slice's spare places count too). A statement '..UptoSaid' is the law's where the arguments, and the package variables that the reading takes, are together of bulk at most 1048576: NARROWER than '..Said'. Prove '..Said' where nothing that the law and all that it calls make is longer than what came in: it says more and counts as full. Else prove '..UptoSaid'. A law counts once. -/
mutual
def uptoBulk {H : Type} : DataW H → Nat
  | .lit (.string bytes) => bytes.length + 1
  | .lit _ => 1
  | .nil => 1
  | .ptr d => uptoBulk d + 1
  | .slice elems spare => uptoBulkAll elems + uptoBulkAll spare + 1
  | .agg parts => uptoBulkAll parts + 1
  | .iface _ d => uptoBulk d + 1
  | .map entries => uptoBulkEntries entries + 1
  | .held _ => 1
def uptoBulkAll {H : Type} : List (DataW H) → Nat
  | [] => 0
  | d :: r => uptoBulk d + uptoBulkAll r
def uptoBulkEntries {H : Type} : List (Lit × DataW H) → Nat
  | [] => 0
  | x :: r => uptoBulkEntry x + uptoBulkEntries r
def uptoBulkEntry {H : Type} : Lit × DataW H → Nat
  | (.string bytes, d) => bytes.length + uptoBulk d + 1
  | (_, d) => uptoBulk d + 1
 end
def uptoSmall : (H : Type) → List (DataW H) → Bool := fun _ ds => decide (uptoBulkAll ds ≤ 1048576)
def OpenSpec.upto (s : _root_.Go.ChangeSpec) : _root_.Go.OpenSpec := { _root_.Go.OpenSpec.ofChange s with cond := some uptoSmall }

/-- 'laws.FnExactConstants', WHERE WHAT IT READS IS OF BULK AT MOST 1048576: true; the input reads as it did. -/
def fnExactConstantsUptoRow : OpenClaim := { program := "ytnojmhcmngejnaa", sum := "4421e6e8aa989f0342aee87003795f1c1c170f0761e378b6eb9ef98cb84342e6", func := "loop.example/g01111/laws.FnExactConstants", spec := "fnExactConstants", apart := false, narrowed := true }
def FnExactConstantsUptoSaid : Prop := fnExactConstantsUptoRow.holds Try.pinned (OpenSpec.upto fnExactConstantsSpec)

/-- 'laws.FnExactTriggerLevel', WHERE WHAT IT READS IS OF BULK AT MOST 1048576: true; the input reads as it did. -/
def fnExactTriggerLevelUptoRow : OpenClaim := { program := "ytnojmhcmngejnaa", sum := "4421e6e8aa989f0342aee87003795f1c1c170f0761e378b6eb9ef98cb84342e6", func := "loop.example/g01111/laws.FnExactTriggerLevel", spec := "fnExactTriggerLevel", unfollowed := true, recurses := true, apart := false, narrowed := true }
def FnExactTriggerLevelUptoSaid : Prop := fnExactTriggerLevelUptoRow.holds Try.pinned (OpenSpec.upto fnExactTriggerLevelSpec)

/-- 'laws.FnExactBestOrders', WHERE WHAT IT READS IS OF BULK AT MOST 1048576: true; the input reads as it did. -/
def fnExactBestOrdersUptoRow : OpenClaim := { program := "ytnojmhcmngejnaa", sum := "4421e6e8aa989f0342aee87003795f1c1c170f0761e378b6eb9ef98cb84342e6", func := "loop.example/g01111/laws.FnExactBestOrders", spec := "fnExactBestOrders", unfollowed := true, recurses := true, apart := false, narrowed := true }
def FnExactBestOrdersUptoSaid : Prop := fnExactBestOrdersUptoRow.holds Try.pinned (OpenSpec.upto fnExactBestOrdersSpec)

/-- 'laws.FnExactStepOrders', WHERE WHAT IT READS IS OF BULK AT MOST 1048576: true; the input reads as it did. -/
def fnExactStepOrdersUptoRow : OpenClaim := { program := "ytnojmhcmngejnaa", sum := "4421e6e8aa989f0342aee87003795f1c1c170f0761e378b6eb9ef98cb84342e6", func := "loop.example/g01111/laws.FnExactStepOrders", spec := "fnExactStepOrders", unfollowed := true, recurses := true, apart := false, narrowed := true }
def FnExactStepOrdersUptoSaid : Prop := fnExactStepOrdersUptoRow.holds Try.pinned (OpenSpec.upto fnExactStepOrdersSpec)

/-- 'laws.FnExactBudgetOrders', WHERE WHAT IT READS IS OF BULK AT MOST 1048576: true; the input reads as it did. -/
def fnExactBudgetOrdersUptoRow : OpenClaim := { program := "ytnojmhcmngejnaa", sum := "4421e6e8aa989f0342aee87003795f1c1c170f0761e378b6eb9ef98cb84342e6", func := "loop.example/g01111/laws.FnExactBudgetOrders", spec := "fnExactBudgetOrders", unfollowed := true, recurses := true, apart := false, narrowed := true }
def FnExactBudgetOrdersUptoSaid : Prop := fnExactBudgetOrdersUptoRow.holds Try.pinned (OpenSpec.upto fnExactBudgetOrdersSpec)

/-- 'laws.FnExactLeastLate', WHERE WHAT IT READS IS OF BULK AT MOST 1048576: true; the input reads as it did. -/
def fnExactLeastLateUptoRow : OpenClaim := { program := "ytnojmhcmngejnaa", sum := "4421e6e8aa989f0342aee87003795f1c1c170f0761e378b6eb9ef98cb84342e6", func := "loop.example/g01111/laws.FnExactLeastLate", spec := "fnExactLeastLate", unfollowed := true, recurses := true, apart := false, narrowed := true }
def FnExactLeastLateUptoSaid : Prop := fnExactLeastLateUptoRow.holds Try.pinned (OpenSpec.upto fnExactLeastLateSpec)

/-- 'laws.FnExactBestLatePlan', WHERE WHAT IT READS IS OF BULK AT MOST 1048576: true; the input reads as it did. -/
def fnExactBestLatePlanUptoRow : OpenClaim := { program := "ytnojmhcmngejnaa", sum := "4421e6e8aa989f0342aee87003795f1c1c170f0761e378b6eb9ef98cb84342e6", func := "loop.example/g01111/laws.FnExactBestLatePlan", spec := "fnExactBestLatePlan", unfollowed := true, recurses := true, apart := false, narrowed := true }
def FnExactBestLatePlanUptoSaid : Prop := fnExactBestLatePlanUptoRow.holds Try.pinned (OpenSpec.upto fnExactBestLatePlanSpec)

end Rows
end Go.Proofs.Ytnojmhcmngejnaa
