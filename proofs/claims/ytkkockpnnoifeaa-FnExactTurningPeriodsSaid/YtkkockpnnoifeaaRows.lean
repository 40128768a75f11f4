/-
  No cell of these rows narrows 'for every input' (looked for: loops, veiled, ifaces, maps, wideKeys, modest, calm, conditions, laid).
  DERIVED. THE GIVEN ROWS OF THIS SEAT. 12 by the template 'for every input the law returns true; each argument reads behind the call as it read before'; 0 by the template 'total and deterministic' (their statements: YtkkockpnnoifeaaTotals.lean).
  GIVEN WITH THE SEED: the statements are not yours to turn. If you find one false, say at which input.
  Laid BY PROGRAM, IN A SANDBOX (cutbox-rows.mjs): the forced cells as the released guide's own fill.sh prints them over the translation 6e8659e57642eda7… (all of the seat's roots in one cut). By AI agents, Wed Nov 11 2026. No macro, syntax, notation, axiom, sorry.
-/
import Derived.Test.YtkkockpnnoifeaaChecked
import GoSem.Claim
import GoSem.ClaimJoined
import GoSem.ClaimMapViews
import Derived.JoinedTies
import Derived.KernelRfl
namespace Go.Proofs.Ytkkockpnnoifeaa
/- THE CELL 'sum', in the pinned program and in every row, IS THE sha256 OF THE DUMP (.gsa) THAT YtkkockpnnoifeaaProg.lean LOADS. Nothing in Lean hashes anything: it is a label: what it is worth is what the hold of that sum in a sandbox is worth. -/
noncomputable def Try.pinned : Pinned := { name := "ytkkockpnnoifeaa", sum := "6e8659e57642eda77d105c7152aba041300f0bb154acc250f7eb5f255c57eb99", checked := Try.checked }
namespace Rows
def none {H : Type} : Left H := { results := [], args := [] }

/-- 'laws.FnExactJoinCases': WHATEVER THE INPUT: true; the input reads as it did. -/
def fnExactJoinCasesSpec : ChangeSpec := { name := "fnExactJoinCases", fn := fun _ => fun
  | [d1, d2] => { results := [.lit (.bool true)], args := [d1, d2] }
  | _ => none }
def fnExactJoinCasesRow : OpenClaim := { program := "ytkkockpnnoifeaa", sum := "6e8659e57642eda77d105c7152aba041300f0bb154acc250f7eb5f255c57eb99", func := "loop.example/g01111/laws.FnExactJoinCases", spec := "fnExactJoinCases", apart := false }
def FnExactJoinCasesSaid : Prop := fnExactJoinCasesRow.holds Try.pinned (OpenSpec.ofChange fnExactJoinCasesSpec)

/-- ITS FALSE NEIGHBOUR: 'it returns false'. Refute it at one input. -/
def fnExactJoinCasesWrong : ChangeSpec := { name := "fnExactJoinCases", fn := fun _ => fun
  | [d1, d2] => { results := [.lit (.bool false)], args := [d1, d2] }
  | _ => none }
def FnExactJoinCasesWrongFalsely : Prop := fnExactJoinCasesRow.holds Try.pinned (OpenSpec.ofChange fnExactJoinCasesWrong)

/-- 'laws.FnExactClaimsOf': WHATEVER THE INPUT: true; the input reads as it did. -/
def fnExactClaimsOfSpec : ChangeSpec := { name := "fnExactClaimsOf", fn := fun _ => fun
  | [d1, d2] => { results := [.lit (.bool true)], args := [d1, d2] }
  | _ => none }
def fnExactClaimsOfRow : OpenClaim := { program := "ytkkockpnnoifeaa", sum := "6e8659e57642eda77d105c7152aba041300f0bb154acc250f7eb5f255c57eb99", func := "loop.example/g01111/laws.FnExactClaimsOf", spec := "fnExactClaimsOf", apart := false }
def FnExactClaimsOfSaid : Prop := fnExactClaimsOfRow.holds Try.pinned (OpenSpec.ofChange fnExactClaimsOfSpec)

/-- ITS FALSE NEIGHBOUR: 'it returns false'. Refute it at one input. -/
def fnExactClaimsOfWrong : ChangeSpec := { name := "fnExactClaimsOf", fn := fun _ => fun
  | [d1, d2] => { results := [.lit (.bool false)], args := [d1, d2] }
  | _ => none }
def FnExactClaimsOfWrongFalsely : Prop := fnExactClaimsOfRow.holds Try.pinned (OpenSpec.ofChange fnExactClaimsOfWrong)

/-- 'laws.FnExactFairPrices': WHATEVER THE INPUT: true; the input reads as it did. -/
def fnExactFairPricesSpec : ChangeSpec := { name := "fnExactFairPrices", fn := fun _ => fun
  | [d] => { results := [.lit (.bool true)], args := [d] }
  | _ => none }
def fnExactFairPricesRow : OpenClaim := { program := "ytkkockpnnoifeaa", sum := "6e8659e57642eda77d105c7152aba041300f0bb154acc250f7eb5f255c57eb99", func := "loop.example/g01111/laws.FnExactFairPrices", spec := "fnExactFairPrices", apart := false }
def FnExactFairPricesSaid : Prop := fnExactFairPricesRow.holds Try.pinned (OpenSpec.ofChange fnExactFairPricesSpec)

/-- ITS FALSE NEIGHBOUR: 'it returns false'. Refute it at one input. -/
def fnExactFairPricesWrong : ChangeSpec := { name := "fnExactFairPrices", fn := fun _ => fun
  | [d] => { results := [.lit (.bool false)], args := [d] }
  | _ => none }
def FnExactFairPricesWrongFalsely : Prop := fnExactFairPricesRow.holds Try.pinned (OpenSpec.ofChange fnExactFairPricesWrong)

/-- 'laws.FnExactForwardCosts': WHATEVER THE INPUT: true; the input reads as it did. -/
def fnExactForwardCostsSpec : ChangeSpec := { name := "fnExactForwardCosts", fn := fun _ => fun
  | [d] => { results := [.lit (.bool true)], args := [d] }
  | _ => none }
def fnExactForwardCostsRow : OpenClaim := { program := "ytkkockpnnoifeaa", sum := "6e8659e57642eda77d105c7152aba041300f0bb154acc250f7eb5f255c57eb99", func := "loop.example/g01111/laws.FnExactForwardCosts", spec := "fnExactForwardCosts", apart := false }
def FnExactForwardCostsSaid : Prop := fnExactForwardCostsRow.holds Try.pinned (OpenSpec.ofChange fnExactForwardCostsSpec)

/-- ITS FALSE NEIGHBOUR: 'it returns false'. Refute it at one input. -/
def fnExactForwardCostsWrong : ChangeSpec := { name := "fnExactForwardCosts", fn := fun _ => fun
  | [d] => { results := [.lit (.bool false)], args := [d] }
  | _ => none }
def FnExactForwardCostsWrongFalsely : Prop := fnExactForwardCostsRow.holds Try.pinned (OpenSpec.ofChange fnExactForwardCostsWrong)

/-- 'laws.FnExactPlanFrom': WHATEVER THE INPUT: true; the input reads as it did. -/
def fnExactPlanFromSpec : ChangeSpec := { name := "fnExactPlanFrom", fn := fun _ => fun
  | [d1, d2] => { results := [.lit (.bool true)], args := [d1, d2] }
  | _ => none }
def fnExactPlanFromRow : OpenClaim := { program := "ytkkockpnnoifeaa", sum := "6e8659e57642eda77d105c7152aba041300f0bb154acc250f7eb5f255c57eb99", func := "loop.example/g01111/laws.FnExactPlanFrom", spec := "fnExactPlanFrom", apart := false }
def FnExactPlanFromSaid : Prop := fnExactPlanFromRow.holds Try.pinned (OpenSpec.ofChange fnExactPlanFromSpec)

/-- ITS FALSE NEIGHBOUR: 'it returns false'. Refute it at one input. -/
def fnExactPlanFromWrong : ChangeSpec := { name := "fnExactPlanFrom", fn := fun _ => fun
  | [d1, d2] => { results := [.lit (.bool false)], args := [d1, d2] }
  | _ => none }
def FnExactPlanFromWrongFalsely : Prop := fnExactPlanFromRow.holds Try.pinned (OpenSpec.ofChange fnExactPlanFromWrong)

/-- 'laws.FnExactBackwardCosts': WHATEVER THE INPUT: true; the input reads as it did. -/
def fnExactBackwardCostsSpec : ChangeSpec := { name := "fnExactBackwardCosts", fn := fun _ => fun
  | [d] => { results := [.lit (.bool true)], args := [d] }
  | _ => none }
def fnExactBackwardCostsRow : OpenClaim := { program := "ytkkockpnnoifeaa", sum := "6e8659e57642eda77d105c7152aba041300f0bb154acc250f7eb5f255c57eb99", func := "loop.example/g01111/laws.FnExactBackwardCosts", spec := "fnExactBackwardCosts", apart := false }
def FnExactBackwardCostsSaid : Prop := fnExactBackwardCostsRow.holds Try.pinned (OpenSpec.ofChange fnExactBackwardCostsSpec)

/-- ITS FALSE NEIGHBOUR: 'it returns false'. Refute it at one input. -/
def fnExactBackwardCostsWrong : ChangeSpec := { name := "fnExactBackwardCosts", fn := fun _ => fun
  | [d] => { results := [.lit (.bool false)], args := [d] }
  | _ => none }
def FnExactBackwardCostsWrongFalsely : Prop := fnExactBackwardCostsRow.holds Try.pinned (OpenSpec.ofChange fnExactBackwardCostsWrong)

/-- 'laws.FnExactLatestStart': WHATEVER THE INPUT: true; the input reads as it did. -/
def fnExactLatestStartSpec : ChangeSpec := { name := "fnExactLatestStart", fn := fun _ => fun
  | [d1, d2] => { results := [.lit (.bool true)], args := [d1, d2] }
  | _ => none }
def fnExactLatestStartRow : OpenClaim := { program := "ytkkockpnnoifeaa", sum := "6e8659e57642eda77d105c7152aba041300f0bb154acc250f7eb5f255c57eb99", func := "loop.example/g01111/laws.FnExactLatestStart", spec := "fnExactLatestStart", apart := false }
def FnExactLatestStartSaid : Prop := fnExactLatestStartRow.holds Try.pinned (OpenSpec.ofChange fnExactLatestStartSpec)

/-- ITS FALSE NEIGHBOUR: 'it returns false'. Refute it at one input. -/
def fnExactLatestStartWrong : ChangeSpec := { name := "fnExactLatestStart", fn := fun _ => fun
  | [d1, d2] => { results := [.lit (.bool false)], args := [d1, d2] }
  | _ => none }
def FnExactLatestStartWrongFalsely : Prop := fnExactLatestStartRow.holds Try.pinned (OpenSpec.ofChange fnExactLatestStartWrong)

/-- 'laws.FnExactLastOrders': WHATEVER THE INPUT: true; the input reads as it did. -/
def fnExactLastOrdersSpec : ChangeSpec := { name := "fnExactLastOrders", fn := fun _ => fun
  | [d] => { results := [.lit (.bool true)], args := [d] }
  | _ => none }
def fnExactLastOrdersRow : OpenClaim := { program := "ytkkockpnnoifeaa", sum := "6e8659e57642eda77d105c7152aba041300f0bb154acc250f7eb5f255c57eb99", func := "loop.example/g01111/laws.FnExactLastOrders", spec := "fnExactLastOrders", apart := false }
def FnExactLastOrdersSaid : Prop := fnExactLastOrdersRow.holds Try.pinned (OpenSpec.ofChange fnExactLastOrdersSpec)

/-- ITS FALSE NEIGHBOUR: 'it returns false'. Refute it at one input. -/
def fnExactLastOrdersWrong : ChangeSpec := { name := "fnExactLastOrders", fn := fun _ => fun
  | [d] => { results := [.lit (.bool false)], args := [d] }
  | _ => none }
def FnExactLastOrdersWrongFalsely : Prop := fnExactLastOrdersRow.holds Try.pinned (OpenSpec.ofChange fnExactLastOrdersWrong)

/-- 'laws.FnExactHorizonsOf': WHATEVER THE INPUT: true; the input reads as it did. -/
def fnExactHorizonsOfSpec : ChangeSpec := { name := "fnExactHorizonsOf", fn := fun _ => fun
  | [d] => { results := [.lit (.bool true)], args := [d] }
  | _ => none }
def fnExactHorizonsOfRow : OpenClaim := { program := "ytkkockpnnoifeaa", sum := "6e8659e57642eda77d105c7152aba041300f0bb154acc250f7eb5f255c57eb99", func := "loop.example/g01111/laws.FnExactHorizonsOf", spec := "fnExactHorizonsOf", apart := false }
def FnExactHorizonsOfSaid : Prop := fnExactHorizonsOfRow.holds Try.pinned (OpenSpec.ofChange fnExactHorizonsOfSpec)

/-- ITS FALSE NEIGHBOUR: 'it returns false'. Refute it at one input. -/
def fnExactHorizonsOfWrong : ChangeSpec := { name := "fnExactHorizonsOf", fn := fun _ => fun
  | [d] => { results := [.lit (.bool false)], args := [d] }
  | _ => none }
def FnExactHorizonsOfWrongFalsely : Prop := fnExactHorizonsOfRow.holds Try.pinned (OpenSpec.ofChange fnExactHorizonsOfWrong)

/-- 'laws.FnExactRulePeriods': WHATEVER THE INPUT: true; the input reads as it did. -/
def fnExactRulePeriodsSpec : ChangeSpec := { name := "fnExactRulePeriods", fn := fun _ => fun
  | [d1, d2] => { results := [.lit (.bool true)], args := [d1, d2] }
  | _ => none }
def fnExactRulePeriodsRow : OpenClaim := { program := "ytkkockpnnoifeaa", sum := "6e8659e57642eda77d105c7152aba041300f0bb154acc250f7eb5f255c57eb99", func := "loop.example/g01111/laws.FnExactRulePeriods", spec := "fnExactRulePeriods", apart := false }
def FnExactRulePeriodsSaid : Prop := fnExactRulePeriodsRow.holds Try.pinned (OpenSpec.ofChange fnExactRulePeriodsSpec)

/-- ITS FALSE NEIGHBOUR: 'it returns false'. Refute it at one input. -/
def fnExactRulePeriodsWrong : ChangeSpec := { name := "fnExactRulePeriods", fn := fun _ => fun
  | [d1, d2] => { results := [.lit (.bool false)], args := [d1, d2] }
  | _ => none }
def FnExactRulePeriodsWrongFalsely : Prop := fnExactRulePeriodsRow.holds Try.pinned (OpenSpec.ofChange fnExactRulePeriodsWrong)

/-- 'laws.FnExactTablePeriods': WHATEVER THE INPUT: true; the input reads as it did. -/
def fnExactTablePeriodsSpec : ChangeSpec := { name := "fnExactTablePeriods", fn := fun _ => fun
  | [d] => { results := [.lit (.bool true)], args := [d] }
  | _ => none }
def fnExactTablePeriodsRow : OpenClaim := { program := "ytkkockpnnoifeaa", sum := "6e8659e57642eda77d105c7152aba041300f0bb154acc250f7eb5f255c57eb99", func := "loop.example/g01111/laws.FnExactTablePeriods", spec := "fnExactTablePeriods", apart := false }
def FnExactTablePeriodsSaid : Prop := fnExactTablePeriodsRow.holds Try.pinned (OpenSpec.ofChange fnExactTablePeriodsSpec)

/-- ITS FALSE NEIGHBOUR: 'it returns false'. Refute it at one input. -/
def fnExactTablePeriodsWrong : ChangeSpec := { name := "fnExactTablePeriods", fn := fun _ => fun
  | [d] => { results := [.lit (.bool false)], args := [d] }
  | _ => none }
def FnExactTablePeriodsWrongFalsely : Prop := fnExactTablePeriodsRow.holds Try.pinned (OpenSpec.ofChange fnExactTablePeriodsWrong)

/-- 'laws.FnExactTurningPeriods': WHATEVER THE INPUT: true; the input reads as it did. -/
def fnExactTurningPeriodsSpec : ChangeSpec := { name := "fnExactTurningPeriods", fn := fun _ => fun
  | [d] => { results := [.lit (.bool true)], args := [d] }
  | _ => none }
def fnExactTurningPeriodsRow : OpenClaim := { program := "ytkkockpnnoifeaa", sum := "6e8659e57642eda77d105c7152aba041300f0bb154acc250f7eb5f255c57eb99", func := "loop.example/g01111/laws.FnExactTurningPeriods", spec := "fnExactTurningPeriods", apart := false }
def FnExactTurningPeriodsSaid : Prop := fnExactTurningPeriodsRow.holds Try.pinned (OpenSpec.ofChange fnExactTurningPeriodsSpec)

/-- ITS FALSE NEIGHBOUR: 'it returns false'. Refute it at one input. -/
def fnExactTurningPeriodsWrong : ChangeSpec := { name := "fnExactTurningPeriods", fn := fun _ => fun
  | [d] => { results := [.lit (.bool false)], args := [d] }
  | _ => none }
def FnExactTurningPeriodsWrongFalsely : Prop := fnExactTurningPeriodsRow.holds Try.pinned (OpenSpec.ofChange fnExactTurningPeriodsWrong)

/- THE SECOND FORM. 'bulk': how many values and letters a reading holds, each counted each time it is reached (what is shared counts as often as it is met; a slice's spare places count too). A statement '..UptoSaid' is the law's where the arguments, and the package variables that the reading takes, are together of bulk at most 1048576: NARROWER than '..Said'. Prove '..Said' where nothing that the law and all that it calls make is longer than what came in: it says more and counts as full. Else prove '..UptoSaid'. A law counts once. -/
mutual
def uptoBulk {H : Type} : DataW H → Nat
  | .lit (.string bytes) => bytes.length + 1
  | .lit _ => 1
  | .nil => 1
  | .ptr d => uptoBulk d + 1
  | .slice elems spare => uptoBulkAll elems + uptoBulkAll spare + 1
  | .agg parts => uptoBulkAll parts + 1
  | .iface _ d => uptoBulk d + 1
  | .map entries => uptoBulkEntries entries + 1
  | .held _ => 1
def uptoBulkAll {H : Type} : List (DataW H) → Nat
  | [] => 0
  | d :: r => uptoBulk d + uptoBulkAll r
def uptoBulkEntries {H : Type} : List (Lit × DataW H) → Nat
  | [] => 0
  | x :: r => uptoBulkEntry x + uptoBulkEntries r
def uptoBulkEntry {H : Type} : Lit × DataW H → Nat
  | (.string bytes, d) => bytes.length + uptoBulk d + 1
  | (_, d) => uptoBulk d + 1
 end
def uptoSmall : (H : Type) → List (DataW H) → Bool := fun _ ds => decide (uptoBulkAll ds ≤ 1048576)
def OpenSpec.upto (s : _root_.Go.ChangeSpec) : _root_.Go.OpenSpec := { _root_.Go.OpenSpec.ofChange s with cond := some uptoSmall }

/-- 'laws.FnExactJoinCases', WHERE WHAT IT READS IS OF BULK AT MOST 1048576: true; the input reads as it did. -/
def fnExactJoinCasesUptoRow : OpenClaim := { program := "ytkkockpnnoifeaa", sum := "6e8659e57642eda77d105c7152aba041300f0bb154acc250f7eb5f255c57eb99", func := "loop.example/g01111/laws.FnExactJoinCases", spec := "fnExactJoinCases", apart := false, narrowed := true }
def FnExactJoinCasesUptoSaid : Prop := fnExactJoinCasesUptoRow.holds Try.pinned (OpenSpec.upto fnExactJoinCasesSpec)

/-- 'laws.FnExactClaimsOf', WHERE WHAT IT READS IS OF BULK AT MOST 1048576: true; the input reads as it did. -/
def fnExactClaimsOfUptoRow : OpenClaim := { program := "ytkkockpnnoifeaa", sum := "6e8659e57642eda77d105c7152aba041300f0bb154acc250f7eb5f255c57eb99", func := "loop.example/g01111/laws.FnExactClaimsOf", spec := "fnExactClaimsOf", apart := false, narrowed := true }
def FnExactClaimsOfUptoSaid : Prop := fnExactClaimsOfUptoRow.holds Try.pinned (OpenSpec.upto fnExactClaimsOfSpec)

/-- 'laws.FnExactFairPrices', WHERE WHAT IT READS IS OF BULK AT MOST 1048576: true; the input reads as it did. -/
def fnExactFairPricesUptoRow : OpenClaim := { program := "ytkkockpnnoifeaa", sum := "6e8659e57642eda77d105c7152aba041300f0bb154acc250f7eb5f255c57eb99", func := "loop.example/g01111/laws.FnExactFairPrices", spec := "fnExactFairPrices", apart := false, narrowed := true }
def FnExactFairPricesUptoSaid : Prop := fnExactFairPricesUptoRow.holds Try.pinned (OpenSpec.upto fnExactFairPricesSpec)

/-- 'laws.FnExactForwardCosts', WHERE WHAT IT READS IS OF BULK AT MOST 1048576: true; the input reads as it did. -/
def fnExactForwardCostsUptoRow : OpenClaim := { program := "ytkkockpnnoifeaa", sum := "6e8659e57642eda77d105c7152aba041300f0bb154acc250f7eb5f255c57eb99", func := "loop.example/g01111/laws.FnExactForwardCosts", spec := "fnExactForwardCosts", apart := false, narrowed := true }
def FnExactForwardCostsUptoSaid : Prop := fnExactForwardCostsUptoRow.holds Try.pinned (OpenSpec.upto fnExactForwardCostsSpec)

/-- 'laws.FnExactPlanFrom', WHERE WHAT IT READS IS OF BULK AT MOST 1048576: true; the input reads as it did. -/
def fnExactPlanFromUptoRow : OpenClaim := { program := "ytkkockpnnoifeaa", sum := "6e8659e57642eda77d105c7152aba041300f0bb154acc250f7eb5f255c57eb99", func := "loop.example/g01111/laws.FnExactPlanFrom", spec := "fnExactPlanFrom", apart := false, narrowed := true }
def FnExactPlanFromUptoSaid : Prop := fnExactPlanFromUptoRow.holds Try.pinned (OpenSpec.upto fnExactPlanFromSpec)

/-- 'laws.FnExactBackwardCosts', WHERE WHAT IT READS IS OF BULK AT MOST 1048576: true; the input reads as it did. -/
def fnExactBackwardCostsUptoRow : OpenClaim := { program := "ytkkockpnnoifeaa", sum := "6e8659e57642eda77d105c7152aba041300f0bb154acc250f7eb5f255c57eb99", func := "loop.example/g01111/laws.FnExactBackwardCosts", spec := "fnExactBackwardCosts", apart := false, narrowed := true }
def FnExactBackwardCostsUptoSaid : Prop := fnExactBackwardCostsUptoRow.holds Try.pinned (OpenSpec.upto fnExactBackwardCostsSpec)

/-- 'laws.FnExactLatestStart', WHERE WHAT IT READS IS OF BULK AT MOST 1048576: true; the input reads as it did. -/
def fnExactLatestStartUptoRow : OpenClaim := { program := "ytkkockpnnoifeaa", sum := "6e8659e57642eda77d105c7152aba041300f0bb154acc250f7eb5f255c57eb99", func := "loop.example/g01111/laws.FnExactLatestStart", spec := "fnExactLatestStart", apart := false, narrowed := true }
def FnExactLatestStartUptoSaid : Prop := fnExactLatestStartUptoRow.holds Try.pinned (OpenSpec.upto fnExactLatestStartSpec)

/-- 'laws.FnExactLastOrders', WHERE WHAT IT READS IS OF BULK AT MOST 1048576: true; the input reads as it did. -/
def fnExactLastOrdersUptoRow : OpenClaim := { program := "ytkkockpnnoifeaa", sum := "6e8659e57642eda77d105c7152aba041300f0bb154acc250f7eb5f255c57eb99", func := "loop.example/g01111/laws.FnExactLastOrders", spec := "fnExactLastOrders", apart := false, narrowed := true }
def FnExactLastOrdersUptoSaid : Prop := fnExactLastOrdersUptoRow.holds Try.pinned (OpenSpec.upto fnExactLastOrdersSpec)

/-- 'laws.FnExactHorizonsOf', WHERE WHAT IT READS IS OF BULK AT MOST 1048576: true; the input reads as it did. -/
def fnExactHorizonsOfUptoRow : OpenClaim := { program := "ytkkockpnnoifeaa", sum := "6e8659e57642eda77d105c7152aba041300f0bb154acc250f7eb5f255c57eb99", func := "loop.example/g01111/laws.FnExactHorizonsOf", spec := "fnExactHorizonsOf", apart := false, narrowed := true }
def FnExactHorizonsOfUptoSaid : Prop := fnExactHorizonsOfUptoRow.holds Try.pinned (OpenSpec.upto fnExactHorizonsOfSpec)

/-- 'laws.FnExactRulePeriods', WHERE WHAT IT READS IS OF BULK AT MOST 1048576: true; the input reads as it did. -/
def fnExactRulePeriodsUptoRow : OpenClaim := { program := "ytkkockpnnoifeaa", sum := "6e8659e57642eda77d105c7152aba041300f0bb154acc250f7eb5f255c57eb99", func := "loop.example/g01111/laws.FnExactRulePeriods", spec := "fnExactRulePeriods", apart := false, narrowed := true }
def FnExactRulePeriodsUptoSaid : Prop := fnExactRulePeriodsUptoRow.holds Try.pinned (OpenSpec.upto fnExactRulePeriodsSpec)

/-- 'laws.FnExactTablePeriods', WHERE WHAT IT READS IS OF BULK AT MOST 1048576: true; the input reads as it did. -/
def fnExactTablePeriodsUptoRow : OpenClaim := { program := "ytkkockpnnoifeaa", sum := "6e8659e57642eda77d105c7152aba041300f0bb154acc250f7eb5f255c57eb99", func := "loop.example/g01111/laws.FnExactTablePeriods", spec := "fnExactTablePeriods", apart := false, narrowed := true }
def FnExactTablePeriodsUptoSaid : Prop := fnExactTablePeriodsUptoRow.holds Try.pinned (OpenSpec.upto fnExactTablePeriodsSpec)

/-- 'laws.FnExactTurningPeriods', WHERE WHAT IT READS IS OF BULK AT MOST 1048576: true; the input reads as it did. -/
def fnExactTurningPeriodsUptoRow : OpenClaim := { program := "ytkkockpnnoifeaa", sum := "6e8659e57642eda77d105c7152aba041300f0bb154acc250f7eb5f255c57eb99", func := "loop.example/g01111/laws.FnExactTurningPeriods", spec := "fnExactTurningPeriods", apart := false, narrowed := true }
def FnExactTurningPeriodsUptoSaid : Prop := fnExactTurningPeriodsUptoRow.holds Try.pinned (OpenSpec.upto fnExactTurningPeriodsSpec)

end Rows
end Go.Proofs.Ytkkockpnnoifeaa
