/-
  No cell of these rows narrows 'for every input' (looked for: loops, veiled, ifaces, maps, wideKeys, modest, calm, conditions, laid).
  DERIVED. THE GIVEN ROWS OF THIS SEAT. 12 by the template 'for every input the law returns true; each argument reads behind the call as it read before'; 0 by the template 'total and deterministic' (their statements: YtdphfhjlbjkdgaaTotals.lean).
  GIVEN WITH THE SEED: the statements are not yours to turn. If you find one false, say at which input.
  Laid BY PROGRAM, IN A SANDBOX (cutbox-rows.mjs): the forced cells as the released guide's own fill.sh prints them over the translation a05eda362d55245b… (all of the seat's roots in one cut). By AI agents, Wed Nov 11 2026. No macro, syntax, notation, axiom, sorry.
-/
import Derived.Test.YtdphfhjlbjkdgaaChecked
import GoSem.Claim
import GoSem.ClaimJoined
import GoSem.ClaimMapViews
import Derived.JoinedTies
import Derived.KernelRfl
namespace Go.Proofs.Ytdphfhjlbjkdgaa
/- THE CELL 'sum', in the pinned program and in every row, IS THE sha256 OF THE DUMP (.gsa) THAT YtdphfhjlbjkdgaaProg.lean LOADS. Nothing in Lean hashes anything: it is a label: what it is worth is what the hold of that sum in a sandbox is worth. -/
noncomputable def Try.pinned : Pinned := { name := "ytdphfhjlbjkdgaa", sum := "a05eda362d55245b9e456b34c6d1a574d93217ed19b0fe630901fec43cb6c14d", checked := Try.checked }
namespace Rows
def none {H : Type} : Left H := { results := [], args := [] }

/-- 'laws.FnExactIsDistribution': WHATEVER THE INPUT: true; the input reads as it did. -/
def fnExactIsDistributionSpec : ChangeSpec := { name := "fnExactIsDistribution", fn := fun _ => fun
  | [d] => { results := [.lit (.bool true)], args := [d] }
  | _ => none }
def fnExactIsDistributionRow : OpenClaim := { program := "ytdphfhjlbjkdgaa", sum := "a05eda362d55245b9e456b34c6d1a574d93217ed19b0fe630901fec43cb6c14d", func := "loop.example/g01111/laws.FnExactIsDistribution", spec := "fnExactIsDistribution", apart := false }
def FnExactIsDistributionSaid : Prop := fnExactIsDistributionRow.holds Try.pinned (OpenSpec.ofChange fnExactIsDistributionSpec)

/-- ITS FALSE NEIGHBOUR: 'it returns false'. Refute it at one input. -/
def fnExactIsDistributionWrong : ChangeSpec := { name := "fnExactIsDistribution", fn := fun _ => fun
  | [d] => { results := [.lit (.bool false)], args := [d] }
  | _ => none }
def FnExactIsDistributionWrongFalsely : Prop := fnExactIsDistributionRow.holds Try.pinned (OpenSpec.ofChange fnExactIsDistributionWrong)

/-- 'laws.FnExactTotalWeight': WHATEVER THE INPUT: true; the input reads as it did. -/
def fnExactTotalWeightSpec : ChangeSpec := { name := "fnExactTotalWeight", fn := fun _ => fun
  | [d] => { results := [.lit (.bool true)], args := [d] }
  | _ => none }
def fnExactTotalWeightRow : OpenClaim := { program := "ytdphfhjlbjkdgaa", sum := "a05eda362d55245b9e456b34c6d1a574d93217ed19b0fe630901fec43cb6c14d", func := "loop.example/g01111/laws.FnExactTotalWeight", spec := "fnExactTotalWeight", apart := false }
def FnExactTotalWeightSaid : Prop := fnExactTotalWeightRow.holds Try.pinned (OpenSpec.ofChange fnExactTotalWeightSpec)

/-- ITS FALSE NEIGHBOUR: 'it returns false'. Refute it at one input. -/
def fnExactTotalWeightWrong : ChangeSpec := { name := "fnExactTotalWeight", fn := fun _ => fun
  | [d] => { results := [.lit (.bool false)], args := [d] }
  | _ => none }
def FnExactTotalWeightWrongFalsely : Prop := fnExactTotalWeightRow.holds Try.pinned (OpenSpec.ofChange fnExactTotalWeightWrong)

/-- 'laws.FnExactWeightUpTo': WHATEVER THE INPUT: true; the input reads as it did. -/
def fnExactWeightUpToSpec : ChangeSpec := { name := "fnExactWeightUpTo", fn := fun _ => fun
  | [d1, d2] => { results := [.lit (.bool true)], args := [d1, d2] }
  | _ => none }
def fnExactWeightUpToRow : OpenClaim := { program := "ytdphfhjlbjkdgaa", sum := "a05eda362d55245b9e456b34c6d1a574d93217ed19b0fe630901fec43cb6c14d", func := "loop.example/g01111/laws.FnExactWeightUpTo", spec := "fnExactWeightUpTo", apart := false }
def FnExactWeightUpToSaid : Prop := fnExactWeightUpToRow.holds Try.pinned (OpenSpec.ofChange fnExactWeightUpToSpec)

/-- ITS FALSE NEIGHBOUR: 'it returns false'. Refute it at one input. -/
def fnExactWeightUpToWrong : ChangeSpec := { name := "fnExactWeightUpTo", fn := fun _ => fun
  | [d1, d2] => { results := [.lit (.bool false)], args := [d1, d2] }
  | _ => none }
def FnExactWeightUpToWrongFalsely : Prop := fnExactWeightUpToRow.holds Try.pinned (OpenSpec.ofChange fnExactWeightUpToWrong)

/-- 'laws.FnExactIsMore': WHATEVER THE INPUT: true; the input reads as it did. -/
def fnExactIsMoreSpec : ChangeSpec := { name := "fnExactIsMore", fn := fun _ => fun
  | [d1, d2] => { results := [.lit (.bool true)], args := [d1, d2] }
  | _ => none }
def fnExactIsMoreRow : OpenClaim := { program := "ytdphfhjlbjkdgaa", sum := "a05eda362d55245b9e456b34c6d1a574d93217ed19b0fe630901fec43cb6c14d", func := "loop.example/g01111/laws.FnExactIsMore", spec := "fnExactIsMore", apart := false }
def FnExactIsMoreSaid : Prop := fnExactIsMoreRow.holds Try.pinned (OpenSpec.ofChange fnExactIsMoreSpec)

/-- ITS FALSE NEIGHBOUR: 'it returns false'. Refute it at one input. -/
def fnExactIsMoreWrong : ChangeSpec := { name := "fnExactIsMore", fn := fun _ => fun
  | [d1, d2] => { results := [.lit (.bool false)], args := [d1, d2] }
  | _ => none }
def FnExactIsMoreWrongFalsely : Prop := fnExactIsMoreRow.holds Try.pinned (OpenSpec.ofChange fnExactIsMoreWrong)

/-- 'laws.FnExactMeanSum': WHATEVER THE INPUT: true; the input reads as it did. -/
def fnExactMeanSumSpec : ChangeSpec := { name := "fnExactMeanSum", fn := fun _ => fun
  | [d] => { results := [.lit (.bool true)], args := [d] }
  | _ => none }
def fnExactMeanSumRow : OpenClaim := { program := "ytdphfhjlbjkdgaa", sum := "a05eda362d55245b9e456b34c6d1a574d93217ed19b0fe630901fec43cb6c14d", func := "loop.example/g01111/laws.FnExactMeanSum", spec := "fnExactMeanSum", unfollowed := true, recurses := true, apart := false }
def FnExactMeanSumSaid : Prop := fnExactMeanSumRow.holds Try.pinned (OpenSpec.ofChange fnExactMeanSumSpec)

/-- ITS FALSE NEIGHBOUR: 'it returns false'. Refute it at one input. -/
def fnExactMeanSumWrong : ChangeSpec := { name := "fnExactMeanSum", fn := fun _ => fun
  | [d] => { results := [.lit (.bool false)], args := [d] }
  | _ => none }
def FnExactMeanSumWrongFalsely : Prop := fnExactMeanSumRow.holds Try.pinned (OpenSpec.ofChange fnExactMeanSumWrong)

/-- 'laws.FnExactCriticalOrder': WHATEVER THE INPUT: true; the input reads as it did. -/
def fnExactCriticalOrderSpec : ChangeSpec := { name := "fnExactCriticalOrder", fn := fun _ => fun
  | [d1, d2, d3] => { results := [.lit (.bool true)], args := [d1, d2, d3] }
  | _ => none }
def fnExactCriticalOrderRow : OpenClaim := { program := "ytdphfhjlbjkdgaa", sum := "a05eda362d55245b9e456b34c6d1a574d93217ed19b0fe630901fec43cb6c14d", func := "loop.example/g01111/laws.FnExactCriticalOrder", spec := "fnExactCriticalOrder", apart := false }
def FnExactCriticalOrderSaid : Prop := fnExactCriticalOrderRow.holds Try.pinned (OpenSpec.ofChange fnExactCriticalOrderSpec)

/-- ITS FALSE NEIGHBOUR: 'it returns false'. Refute it at one input. -/
def fnExactCriticalOrderWrong : ChangeSpec := { name := "fnExactCriticalOrder", fn := fun _ => fun
  | [d1, d2, d3] => { results := [.lit (.bool false)], args := [d1, d2, d3] }
  | _ => none }
def FnExactCriticalOrderWrongFalsely : Prop := fnExactCriticalOrderRow.holds Try.pinned (OpenSpec.ofChange fnExactCriticalOrderWrong)

/-- 'laws.FnExactOverSum': WHATEVER THE INPUT: true; the input reads as it did. -/
def fnExactOverSumSpec : ChangeSpec := { name := "fnExactOverSum", fn := fun _ => fun
  | [d1, d2] => { results := [.lit (.bool true)], args := [d1, d2] }
  | _ => none }
def fnExactOverSumRow : OpenClaim := { program := "ytdphfhjlbjkdgaa", sum := "a05eda362d55245b9e456b34c6d1a574d93217ed19b0fe630901fec43cb6c14d", func := "loop.example/g01111/laws.FnExactOverSum", spec := "fnExactOverSum", unfollowed := true, recurses := true, apart := false }
def FnExactOverSumSaid : Prop := fnExactOverSumRow.holds Try.pinned (OpenSpec.ofChange fnExactOverSumSpec)

/-- ITS FALSE NEIGHBOUR: 'it returns false'. Refute it at one input. -/
def fnExactOverSumWrong : ChangeSpec := { name := "fnExactOverSum", fn := fun _ => fun
  | [d1, d2] => { results := [.lit (.bool false)], args := [d1, d2] }
  | _ => none }
def FnExactOverSumWrongFalsely : Prop := fnExactOverSumRow.holds Try.pinned (OpenSpec.ofChange fnExactOverSumWrong)

/-- 'laws.FnExactShortSum': WHATEVER THE INPUT: true; the input reads as it did. -/
def fnExactShortSumSpec : ChangeSpec := { name := "fnExactShortSum", fn := fun _ => fun
  | [d1, d2] => { results := [.lit (.bool true)], args := [d1, d2] }
  | _ => none }
def fnExactShortSumRow : OpenClaim := { program := "ytdphfhjlbjkdgaa", sum := "a05eda362d55245b9e456b34c6d1a574d93217ed19b0fe630901fec43cb6c14d", func := "loop.example/g01111/laws.FnExactShortSum", spec := "fnExactShortSum", unfollowed := true, recurses := true, apart := false }
def FnExactShortSumSaid : Prop := fnExactShortSumRow.holds Try.pinned (OpenSpec.ofChange fnExactShortSumSpec)

/-- ITS FALSE NEIGHBOUR: 'it returns false'. Refute it at one input. -/
def fnExactShortSumWrong : ChangeSpec := { name := "fnExactShortSum", fn := fun _ => fun
  | [d1, d2] => { results := [.lit (.bool false)], args := [d1, d2] }
  | _ => none }
def FnExactShortSumWrongFalsely : Prop := fnExactShortSumRow.holds Try.pinned (OpenSpec.ofChange fnExactShortSumWrong)

/-- 'laws.FnExactSumOf': WHATEVER THE INPUT: true; the input reads as it did. -/
def fnExactSumOfSpec : ChangeSpec := { name := "fnExactSumOf", fn := fun _ => fun
  | [d1, d2] => { results := [.lit (.bool true)], args := [d1, d2] }
  | _ => none }
def fnExactSumOfRow : OpenClaim := { program := "ytdphfhjlbjkdgaa", sum := "a05eda362d55245b9e456b34c6d1a574d93217ed19b0fe630901fec43cb6c14d", func := "loop.example/g01111/laws.FnExactSumOf", spec := "fnExactSumOf", apart := false }
def FnExactSumOfSaid : Prop := fnExactSumOfRow.holds Try.pinned (OpenSpec.ofChange fnExactSumOfSpec)

/-- ITS FALSE NEIGHBOUR: 'it returns false'. Refute it at one input. -/
def fnExactSumOfWrong : ChangeSpec := { name := "fnExactSumOf", fn := fun _ => fun
  | [d1, d2] => { results := [.lit (.bool false)], args := [d1, d2] }
  | _ => none }
def FnExactSumOfWrongFalsely : Prop := fnExactSumOfRow.holds Try.pinned (OpenSpec.ofChange fnExactSumOfWrong)

/-- 'laws.FnExactIsWider': WHATEVER THE INPUT: true; the input reads as it did. -/
def fnExactIsWiderSpec : ChangeSpec := { name := "fnExactIsWider", fn := fun _ => fun
  | [d1, d2] => { results := [.lit (.bool true)], args := [d1, d2] }
  | _ => none }
def fnExactIsWiderRow : OpenClaim := { program := "ytdphfhjlbjkdgaa", sum := "a05eda362d55245b9e456b34c6d1a574d93217ed19b0fe630901fec43cb6c14d", func := "loop.example/g01111/laws.FnExactIsWider", spec := "fnExactIsWider", unfollowed := true, recurses := true, apart := false }
def FnExactIsWiderSaid : Prop := fnExactIsWiderRow.holds Try.pinned (OpenSpec.ofChange fnExactIsWiderSpec)

/-- ITS FALSE NEIGHBOUR: 'it returns false'. Refute it at one input. -/
def fnExactIsWiderWrong : ChangeSpec := { name := "fnExactIsWider", fn := fun _ => fun
  | [d1, d2] => { results := [.lit (.bool false)], args := [d1, d2] }
  | _ => none }
def FnExactIsWiderWrongFalsely : Prop := fnExactIsWiderRow.holds Try.pinned (OpenSpec.ofChange fnExactIsWiderWrong)

/-- 'laws.FnExactCostSum': WHATEVER THE INPUT: true; the input reads as it did. -/
def fnExactCostSumSpec : ChangeSpec := { name := "fnExactCostSum", fn := fun _ => fun
  | [d1, d2, d3, d4] => { results := [.lit (.bool true)], args := [d1, d2, d3, d4] }
  | _ => none }
def fnExactCostSumRow : OpenClaim := { program := "ytdphfhjlbjkdgaa", sum := "a05eda362d55245b9e456b34c6d1a574d93217ed19b0fe630901fec43cb6c14d", func := "loop.example/g01111/laws.FnExactCostSum", spec := "fnExactCostSum", unfollowed := true, recurses := true, apart := false }
def FnExactCostSumSaid : Prop := fnExactCostSumRow.holds Try.pinned (OpenSpec.ofChange fnExactCostSumSpec)

/-- ITS FALSE NEIGHBOUR: 'it returns false'. Refute it at one input. -/
def fnExactCostSumWrong : ChangeSpec := { name := "fnExactCostSum", fn := fun _ => fun
  | [d1, d2, d3, d4] => { results := [.lit (.bool false)], args := [d1, d2, d3, d4] }
  | _ => none }
def FnExactCostSumWrongFalsely : Prop := fnExactCostSumRow.holds Try.pinned (OpenSpec.ofChange fnExactCostSumWrong)

/-- 'laws.FnExactOrderUpTo': WHATEVER THE INPUT: true; the input reads as it did. -/
def fnExactOrderUpToSpec : ChangeSpec := { name := "fnExactOrderUpTo", fn := fun _ => fun
  | [d1, d2, d3, d4, d5, d6] => { results := [.lit (.bool true)], args := [d1, d2, d3, d4, d5, d6] }
  | _ => none }
def fnExactOrderUpToRow : OpenClaim := { program := "ytdphfhjlbjkdgaa", sum := "a05eda362d55245b9e456b34c6d1a574d93217ed19b0fe630901fec43cb6c14d", func := "loop.example/g01111/laws.FnExactOrderUpTo", spec := "fnExactOrderUpTo", unfollowed := true, recurses := true, apart := false }
def FnExactOrderUpToSaid : Prop := fnExactOrderUpToRow.holds Try.pinned (OpenSpec.ofChange fnExactOrderUpToSpec)

/-- ITS FALSE NEIGHBOUR: 'it returns false'. Refute it at one input. -/
def fnExactOrderUpToWrong : ChangeSpec := { name := "fnExactOrderUpTo", fn := fun _ => fun
  | [d1, d2, d3, d4, d5, d6] => { results := [.lit (.bool false)], args := [d1, d2, d3, d4, d5, d6] }
  | _ => none }
def FnExactOrderUpToWrongFalsely : Prop := fnExactOrderUpToRow.holds Try.pinned (OpenSpec.ofChange fnExactOrderUpToWrong)

/- THE SECOND FORM. 'bulk': how many values and letters a reading holds, each counted each time it is reached (what is shared counts as often as it is met; a slice's spare places count too). A statement '..UptoSaid' is the law's where the arguments, and the package variables that the reading takes, are together of bulk at most 1048576: NARROWER than '..Said'. Prove '..Said' where nothing that the law and all that it calls make is longer than what came in: it says more and counts as full. Else prove '..UptoSaid'. A law counts once. -/
mutual
def uptoBulk {H : Type} : DataW H → Nat
  | .lit (.string bytes) => bytes.length + 1
  | .lit _ => 1
  | .nil => 1
  | .ptr d => uptoBulk d + 1
  | .slice elems spare => uptoBulkAll elems + uptoBulkAll spare + 1
  | .agg parts => uptoBulkAll parts + 1
  | .iface _ d => uptoBulk d + 1
  | .map entries => uptoBulkEntries entries + 1
  | .held _ => 1
def uptoBulkAll {H : Type} : List (DataW H) → Nat
  | [] => 0
  | d :: r => uptoBulk d + uptoBulkAll r
def uptoBulkEntries {H : Type} : List (Lit × DataW H) → Nat
  | [] => 0
  | x :: r => uptoBulkEntry x + uptoBulkEntries r
def uptoBulkEntry {H : Type} : Lit × DataW H → Nat
  | (.string bytes, d) => bytes.length + uptoBulk d + 1
  | (_, d) => uptoBulk d + 1
 end
def uptoSmall : (H : Type) → List (DataW H) → Bool := fun _ ds => decide (uptoBulkAll ds ≤ 1048576)
def OpenSpec.upto (s : _root_.Go.ChangeSpec) : _root_.Go.OpenSpec := { _root_.Go.OpenSpec.ofChange s with cond := some uptoSmall }

/-- 'laws.FnExactIsDistribution', WHERE WHAT IT READS IS OF BULK AT MOST 1048576: true; the input reads as it did. -/
def fnExactIsDistributionUptoRow : OpenClaim := { program := "ytdphfhjlbjkdgaa", sum := "a05eda362d55245b9e456b34c6d1a574d93217ed19b0fe630901fec43cb6c14d", func := "loop.example/g01111/laws.FnExactIsDistribution", spec := "fnExactIsDistribution", apart := false, narrowed := true }
def FnExactIsDistributionUptoSaid : Prop := fnExactIsDistributionUptoRow.holds Try.pinned (OpenSpec.upto fnExactIsDistributionSpec)

/-- 'laws.FnExactTotalWeight', WHERE WHAT IT READS IS OF BULK AT MOST 1048576: true; the input reads as it did. -/
def fnExactTotalWeightUptoRow : OpenClaim := { program := "ytdphfhjlbjkdgaa", sum := "a05eda362d55245b9e456b34c6d1a574d93217ed19b0fe630901fec43cb6c14d", func := "loop.example/g01111/laws.FnExactTotalWeight", spec := "fnExactTotalWeight", apart := false, narrowed := true }
def FnExactTotalWeightUptoSaid : Prop := fnExactTotalWeightUptoRow.holds Try.pinned (OpenSpec.upto fnExactTotalWeightSpec)

/-- 'laws.FnExactWeightUpTo', WHERE WHAT IT READS IS OF BULK AT MOST 1048576: true; the input reads as it did. -/
def fnExactWeightUpToUptoRow : OpenClaim := { program := "ytdphfhjlbjkdgaa", sum := "a05eda362d55245b9e456b34c6d1a574d93217ed19b0fe630901fec43cb6c14d", func := "loop.example/g01111/laws.FnExactWeightUpTo", spec := "fnExactWeightUpTo", apart := false, narrowed := true }
def FnExactWeightUpToUptoSaid : Prop := fnExactWeightUpToUptoRow.holds Try.pinned (OpenSpec.upto fnExactWeightUpToSpec)

/-- 'laws.FnExactIsMore', WHERE WHAT IT READS IS OF BULK AT MOST 1048576: true; the input reads as it did. -/
def fnExactIsMoreUptoRow : OpenClaim := { program := "ytdphfhjlbjkdgaa", sum := "a05eda362d55245b9e456b34c6d1a574d93217ed19b0fe630901fec43cb6c14d", func := "loop.example/g01111/laws.FnExactIsMore", spec := "fnExactIsMore", apart := false, narrowed := true }
def FnExactIsMoreUptoSaid : Prop := fnExactIsMoreUptoRow.holds Try.pinned (OpenSpec.upto fnExactIsMoreSpec)

/-- 'laws.FnExactMeanSum', WHERE WHAT IT READS IS OF BULK AT MOST 1048576: true; the input reads as it did. -/
def fnExactMeanSumUptoRow : OpenClaim := { program := "ytdphfhjlbjkdgaa", sum := "a05eda362d55245b9e456b34c6d1a574d93217ed19b0fe630901fec43cb6c14d", func := "loop.example/g01111/laws.FnExactMeanSum", spec := "fnExactMeanSum", unfollowed := true, recurses := true, apart := false, narrowed := true }
def FnExactMeanSumUptoSaid : Prop := fnExactMeanSumUptoRow.holds Try.pinned (OpenSpec.upto fnExactMeanSumSpec)

/-- 'laws.FnExactCriticalOrder', WHERE WHAT IT READS IS OF BULK AT MOST 1048576: true; the input reads as it did. -/
def fnExactCriticalOrderUptoRow : OpenClaim := { program := "ytdphfhjlbjkdgaa", sum := "a05eda362d55245b9e456b34c6d1a574d93217ed19b0fe630901fec43cb6c14d", func := "loop.example/g01111/laws.FnExactCriticalOrder", spec := "fnExactCriticalOrder", apart := false, narrowed := true }
def FnExactCriticalOrderUptoSaid : Prop := fnExactCriticalOrderUptoRow.holds Try.pinned (OpenSpec.upto fnExactCriticalOrderSpec)

/-- 'laws.FnExactOverSum', WHERE WHAT IT READS IS OF BULK AT MOST 1048576: true; the input reads as it did. -/
def fnExactOverSumUptoRow : OpenClaim := { program := "ytdphfhjlbjkdgaa", sum := "a05eda362d55245b9e456b34c6d1a574d93217ed19b0fe630901fec43cb6c14d", func := "loop.example/g01111/laws.FnExactOverSum", spec := "fnExactOverSum", unfollowed := true, recurses := true, apart := false, narrowed := true }
def FnExactOverSumUptoSaid : Prop := fnExactOverSumUptoRow.holds Try.pinned (OpenSpec.upto fnExactOverSumSpec)

/-- 'laws.FnExactShortSum', WHERE WHAT IT READS IS OF BULK AT MOST 1048576: true; the input reads as it did. -/
def fnExactShortSumUptoRow : OpenClaim := { program := "ytdphfhjlbjkdgaa", sum := "a05eda362d55245b9e456b34c6d1a574d93217ed19b0fe630901fec43cb6c14d", func := "loop.example/g01111/laws.FnExactShortSum", spec := "fnExactShortSum", unfollowed := true, recurses := true, apart := false, narrowed := true }
def FnExactShortSumUptoSaid : Prop := fnExactShortSumUptoRow.holds Try.pinned (OpenSpec.upto fnExactShortSumSpec)

/-- 'laws.FnExactSumOf', WHERE WHAT IT READS IS OF BULK AT MOST 1048576: true; the input reads as it did. -/
def fnExactSumOfUptoRow : OpenClaim := { program := "ytdphfhjlbjkdgaa", sum := "a05eda362d55245b9e456b34c6d1a574d93217ed19b0fe630901fec43cb6c14d", func := "loop.example/g01111/laws.FnExactSumOf", spec := "fnExactSumOf", apart := false, narrowed := true }
def FnExactSumOfUptoSaid : Prop := fnExactSumOfUptoRow.holds Try.pinned (OpenSpec.upto fnExactSumOfSpec)

/-- 'laws.FnExactIsWider', WHERE WHAT IT READS IS OF BULK AT MOST 1048576: true; the input reads as it did. -/
def fnExactIsWiderUptoRow : OpenClaim := { program := "ytdphfhjlbjkdgaa", sum := "a05eda362d55245b9e456b34c6d1a574d93217ed19b0fe630901fec43cb6c14d", func := "loop.example/g01111/laws.FnExactIsWider", spec := "fnExactIsWider", unfollowed := true, recurses := true, apart := false, narrowed := true }
def FnExactIsWiderUptoSaid : Prop := fnExactIsWiderUptoRow.holds Try.pinned (OpenSpec.upto fnExactIsWiderSpec)

/-- 'laws.FnExactCostSum', WHERE WHAT IT READS IS OF BULK AT MOST 1048576: true; the input reads as it did. -/
def fnExactCostSumUptoRow : OpenClaim := { program := "ytdphfhjlbjkdgaa", sum := "a05eda362d55245b9e456b34c6d1a574d93217ed19b0fe630901fec43cb6c14d", func := "loop.example/g01111/laws.FnExactCostSum", spec := "fnExactCostSum", unfollowed := true, recurses := true, apart := false, narrowed := true }
def FnExactCostSumUptoSaid : Prop := fnExactCostSumUptoRow.holds Try.pinned (OpenSpec.upto fnExactCostSumSpec)

/-- 'laws.FnExactOrderUpTo', WHERE WHAT IT READS IS OF BULK AT MOST 1048576: true; the input reads as it did. -/
def fnExactOrderUpToUptoRow : OpenClaim := { program := "ytdphfhjlbjkdgaa", sum := "a05eda362d55245b9e456b34c6d1a574d93217ed19b0fe630901fec43cb6c14d", func := "loop.example/g01111/laws.FnExactOrderUpTo", spec := "fnExactOrderUpTo", unfollowed := true, recurses := true, apart := false, narrowed := true }
def FnExactOrderUpToUptoSaid : Prop := fnExactOrderUpToUptoRow.holds Try.pinned (OpenSpec.upto fnExactOrderUpToSpec)

end Rows
end Go.Proofs.Ytdphfhjlbjkdgaa
