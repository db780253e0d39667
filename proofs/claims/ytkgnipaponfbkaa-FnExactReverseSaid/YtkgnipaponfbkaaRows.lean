/-
  No cell of these rows narrows 'for every input' (looked for: loops, veiled, ifaces, maps, wideKeys, modest, calm, conditions, laid).
  DERIVED. THE GIVEN ROWS OF THIS SEAT. 12 by the template 'for every input the law returns true; each argument reads behind the call as it read before'; 0 by the template 'total and deterministic' (their statements: YtkgnipaponfbkaaTotals.lean).
  GIVEN WITH THE SEED: the statements are not yours to turn. If you find one false, say at which input.
  Laid BY PROGRAM, IN A SANDBOX (cutbox-rows.mjs): the forced cells as the released guide's own fill.sh prints them over the translation 934eef685e254c3c… (all of the seat's roots in one cut). By AI agents, Wed Nov 11 2026. No macro, syntax, notation, axiom, sorry.
-/
import Derived.Test.YtkgnipaponfbkaaChecked
import GoSem.Claim
import GoSem.ClaimJoined
import GoSem.ClaimMapViews
import Derived.JoinedTies
import Derived.KernelRfl
namespace Go.Proofs.Ytkgnipaponfbkaa
/- THE CELL 'sum', in the pinned program and in every row, IS THE sha256 OF THE DUMP (.gsa) THAT YtkgnipaponfbkaaProg.lean LOADS. Nothing in Lean hashes anything: it is a label: what it is worth is what the hold of that sum in a sandbox is worth. -/
noncomputable def Try.pinned : Pinned := { name := "ytkgnipaponfbkaa", sum := "934eef685e254c3c4a1c16c2aa234bf77a39071dc8c1e6de1fc01f3197186bda", checked := Try.checked }
namespace Rows
def none {H : Type} : Left H := { results := [], args := [] }

/-- 'laws.FnExactPurseOk': WHATEVER THE INPUT: true; the input reads as it did. -/
def fnExactPurseOkSpec : ChangeSpec := { name := "fnExactPurseOk", fn := fun _ => fun
  | [d] => { results := [.lit (.bool true)], args := [d] }
  | _ => none }
def fnExactPurseOkRow : OpenClaim := { program := "ytkgnipaponfbkaa", sum := "934eef685e254c3c4a1c16c2aa234bf77a39071dc8c1e6de1fc01f3197186bda", func := "loop.example/g00400/laws.FnExactPurseOk", spec := "fnExactPurseOk", apart := false }
def FnExactPurseOkSaid : Prop := fnExactPurseOkRow.holds Try.pinned (OpenSpec.ofChange fnExactPurseOkSpec)

/-- ITS FALSE NEIGHBOUR: 'it returns false'. Refute it at one input. -/
def fnExactPurseOkWrong : ChangeSpec := { name := "fnExactPurseOk", fn := fun _ => fun
  | [d] => { results := [.lit (.bool false)], args := [d] }
  | _ => none }
def FnExactPurseOkWrongFalsely : Prop := fnExactPurseOkRow.holds Try.pinned (OpenSpec.ofChange fnExactPurseOkWrong)

/-- 'laws.FnExactUsed': WHATEVER THE INPUT: true; the input reads as it did. -/
def fnExactUsedSpec : ChangeSpec := { name := "fnExactUsed", fn := fun _ => fun
  | [d1, d2] => { results := [.lit (.bool true)], args := [d1, d2] }
  | _ => none }
def fnExactUsedRow : OpenClaim := { program := "ytkgnipaponfbkaa", sum := "934eef685e254c3c4a1c16c2aa234bf77a39071dc8c1e6de1fc01f3197186bda", func := "loop.example/g00400/laws.FnExactUsed", spec := "fnExactUsed", apart := false }
def FnExactUsedSaid : Prop := fnExactUsedRow.holds Try.pinned (OpenSpec.ofChange fnExactUsedSpec)

/-- ITS FALSE NEIGHBOUR: 'it returns false'. Refute it at one input. -/
def fnExactUsedWrong : ChangeSpec := { name := "fnExactUsed", fn := fun _ => fun
  | [d1, d2] => { results := [.lit (.bool false)], args := [d1, d2] }
  | _ => none }
def FnExactUsedWrongFalsely : Prop := fnExactUsedRow.holds Try.pinned (OpenSpec.ofChange fnExactUsedWrong)

/-- 'laws.FnExactSides': WHATEVER THE INPUT: true; the input reads as it did. -/
def fnExactSidesSpec : ChangeSpec := { name := "fnExactSides", fn := fun _ => fun
  | [d] => { results := [.lit (.bool true)], args := [d] }
  | _ => none }
def fnExactSidesRow : OpenClaim := { program := "ytkgnipaponfbkaa", sum := "934eef685e254c3c4a1c16c2aa234bf77a39071dc8c1e6de1fc01f3197186bda", func := "loop.example/g00400/laws.FnExactSides", spec := "fnExactSides", apart := false }
def FnExactSidesSaid : Prop := fnExactSidesRow.holds Try.pinned (OpenSpec.ofChange fnExactSidesSpec)

/-- ITS FALSE NEIGHBOUR: 'it returns false'. Refute it at one input. -/
def fnExactSidesWrong : ChangeSpec := { name := "fnExactSides", fn := fun _ => fun
  | [d] => { results := [.lit (.bool false)], args := [d] }
  | _ => none }
def FnExactSidesWrongFalsely : Prop := fnExactSidesRow.holds Try.pinned (OpenSpec.ofChange fnExactSidesWrong)

/-- 'laws.FnExactMaySpend': WHATEVER THE INPUT: true; the input reads as it did. -/
def fnExactMaySpendSpec : ChangeSpec := { name := "fnExactMaySpend", fn := fun _ => fun
  | [d1, d2, d3] => { results := [.lit (.bool true)], args := [d1, d2, d3] }
  | _ => none }
def fnExactMaySpendRow : OpenClaim := { program := "ytkgnipaponfbkaa", sum := "934eef685e254c3c4a1c16c2aa234bf77a39071dc8c1e6de1fc01f3197186bda", func := "loop.example/g00400/laws.FnExactMaySpend", spec := "fnExactMaySpend", apart := false }
def FnExactMaySpendSaid : Prop := fnExactMaySpendRow.holds Try.pinned (OpenSpec.ofChange fnExactMaySpendSpec)

/-- ITS FALSE NEIGHBOUR: 'it returns false'. Refute it at one input. -/
def fnExactMaySpendWrong : ChangeSpec := { name := "fnExactMaySpend", fn := fun _ => fun
  | [d1, d2, d3] => { results := [.lit (.bool false)], args := [d1, d2, d3] }
  | _ => none }
def FnExactMaySpendWrongFalsely : Prop := fnExactMaySpendRow.holds Try.pinned (OpenSpec.ofChange fnExactMaySpendWrong)

/-- 'laws.FnExactBucketAt': WHATEVER THE INPUT: true; the input reads as it did. -/
def fnExactBucketAtSpec : ChangeSpec := { name := "fnExactBucketAt", fn := fun _ => fun
  | [d1, d2] => { results := [.lit (.bool true)], args := [d1, d2] }
  | _ => none }
def fnExactBucketAtRow : OpenClaim := { program := "ytkgnipaponfbkaa", sum := "934eef685e254c3c4a1c16c2aa234bf77a39071dc8c1e6de1fc01f3197186bda", func := "loop.example/g00400/laws.FnExactBucketAt", spec := "fnExactBucketAt", named := ["math/bits.divideError", "math/bits.overflowError"], apart := false }
def FnExactBucketAtSaid : Prop := fnExactBucketAtRow.holds Try.pinned (OpenSpec.ofChange fnExactBucketAtSpec)

/-- ITS FALSE NEIGHBOUR: 'it returns false'. Refute it at one input. -/
def fnExactBucketAtWrong : ChangeSpec := { name := "fnExactBucketAt", fn := fun _ => fun
  | [d1, d2] => { results := [.lit (.bool false)], args := [d1, d2] }
  | _ => none }
def FnExactBucketAtWrongFalsely : Prop := fnExactBucketAtRow.holds Try.pinned (OpenSpec.ofChange fnExactBucketAtWrong)

/-- 'laws.FnExactRate': WHATEVER THE INPUT: true; the input reads as it did. -/
def fnExactRateSpec : ChangeSpec := { name := "fnExactRate", fn := fun _ => fun
  | [d] => { results := [.lit (.bool true)], args := [d] }
  | _ => none }
def fnExactRateRow : OpenClaim := { program := "ytkgnipaponfbkaa", sum := "934eef685e254c3c4a1c16c2aa234bf77a39071dc8c1e6de1fc01f3197186bda", func := "loop.example/g00400/laws.FnExactRate", spec := "fnExactRate", named := ["math/bits.divideError", "math/bits.overflowError"], apart := false }
def FnExactRateSaid : Prop := fnExactRateRow.holds Try.pinned (OpenSpec.ofChange fnExactRateSpec)

/-- ITS FALSE NEIGHBOUR: 'it returns false'. Refute it at one input. -/
def fnExactRateWrong : ChangeSpec := { name := "fnExactRate", fn := fun _ => fun
  | [d] => { results := [.lit (.bool false)], args := [d] }
  | _ => none }
def FnExactRateWrongFalsely : Prop := fnExactRateRow.holds Try.pinned (OpenSpec.ofChange fnExactRateWrong)

/-- 'laws.FnExactReverse': WHATEVER THE INPUT: true; the input reads as it did. -/
def fnExactReverseSpec : ChangeSpec := { name := "fnExactReverse", fn := fun _ => fun
  | [d1, d2] => { results := [.lit (.bool true)], args := [d1, d2] }
  | _ => none }
def fnExactReverseRow : OpenClaim := { program := "ytkgnipaponfbkaa", sum := "934eef685e254c3c4a1c16c2aa234bf77a39071dc8c1e6de1fc01f3197186bda", func := "loop.example/g00400/laws.FnExactReverse", spec := "fnExactReverse", apart := false }
def FnExactReverseSaid : Prop := fnExactReverseRow.holds Try.pinned (OpenSpec.ofChange fnExactReverseSpec)

/-- ITS FALSE NEIGHBOUR: 'it returns false'. Refute it at one input. -/
def fnExactReverseWrong : ChangeSpec := { name := "fnExactReverse", fn := fun _ => fun
  | [d1, d2] => { results := [.lit (.bool false)], args := [d1, d2] }
  | _ => none }
def FnExactReverseWrongFalsely : Prop := fnExactReverseRow.holds Try.pinned (OpenSpec.ofChange fnExactReverseWrong)

/-- 'laws.FnExactBucketTake': WHATEVER THE INPUT: true; the input reads as it did. -/
def fnExactBucketTakeSpec : ChangeSpec := { name := "fnExactBucketTake", fn := fun _ => fun
  | [d1, d2, d3] => { results := [.lit (.bool true)], args := [d1, d2, d3] }
  | _ => none }
def fnExactBucketTakeRow : OpenClaim := { program := "ytkgnipaponfbkaa", sum := "934eef685e254c3c4a1c16c2aa234bf77a39071dc8c1e6de1fc01f3197186bda", func := "loop.example/g00400/laws.FnExactBucketTake", spec := "fnExactBucketTake", named := ["math/bits.divideError", "math/bits.overflowError"], apart := false }
def FnExactBucketTakeSaid : Prop := fnExactBucketTakeRow.holds Try.pinned (OpenSpec.ofChange fnExactBucketTakeSpec)

/-- ITS FALSE NEIGHBOUR: 'it returns false'. Refute it at one input. -/
def fnExactBucketTakeWrong : ChangeSpec := { name := "fnExactBucketTake", fn := fun _ => fun
  | [d1, d2, d3] => { results := [.lit (.bool false)], args := [d1, d2, d3] }
  | _ => none }
def FnExactBucketTakeWrongFalsely : Prop := fnExactBucketTakeRow.holds Try.pinned (OpenSpec.ofChange fnExactBucketTakeWrong)

/-- 'laws.FnExactPurseWhen': WHATEVER THE INPUT: true; the input reads as it did. -/
def fnExactPurseWhenSpec : ChangeSpec := { name := "fnExactPurseWhen", fn := fun _ => fun
  | [d1, d2, d3] => { results := [.lit (.bool true)], args := [d1, d2, d3] }
  | _ => none }
def fnExactPurseWhenRow : OpenClaim := { program := "ytkgnipaponfbkaa", sum := "934eef685e254c3c4a1c16c2aa234bf77a39071dc8c1e6de1fc01f3197186bda", func := "loop.example/g00400/laws.FnExactPurseWhen", spec := "fnExactPurseWhen", apart := false }
def FnExactPurseWhenSaid : Prop := fnExactPurseWhenRow.holds Try.pinned (OpenSpec.ofChange fnExactPurseWhenSpec)

/-- ITS FALSE NEIGHBOUR: 'it returns false'. Refute it at one input. -/
def fnExactPurseWhenWrong : ChangeSpec := { name := "fnExactPurseWhen", fn := fun _ => fun
  | [d1, d2, d3] => { results := [.lit (.bool false)], args := [d1, d2, d3] }
  | _ => none }
def FnExactPurseWhenWrongFalsely : Prop := fnExactPurseWhenRow.holds Try.pinned (OpenSpec.ofChange fnExactPurseWhenWrong)

/-- 'laws.FnExactSpend': WHATEVER THE INPUT: true; the input reads as it did. -/
def fnExactSpendSpec : ChangeSpec := { name := "fnExactSpend", fn := fun _ => fun
  | [d1, d2, d3] => { results := [.lit (.bool true)], args := [d1, d2, d3] }
  | _ => none }
def fnExactSpendRow : OpenClaim := { program := "ytkgnipaponfbkaa", sum := "934eef685e254c3c4a1c16c2aa234bf77a39071dc8c1e6de1fc01f3197186bda", func := "loop.example/g00400/laws.FnExactSpend", spec := "fnExactSpend", apart := false }
def FnExactSpendSaid : Prop := fnExactSpendRow.holds Try.pinned (OpenSpec.ofChange fnExactSpendSpec)

/-- ITS FALSE NEIGHBOUR: 'it returns false'. Refute it at one input. -/
def fnExactSpendWrong : ChangeSpec := { name := "fnExactSpend", fn := fun _ => fun
  | [d1, d2, d3] => { results := [.lit (.bool false)], args := [d1, d2, d3] }
  | _ => none }
def FnExactSpendWrongFalsely : Prop := fnExactSpendRow.holds Try.pinned (OpenSpec.ofChange fnExactSpendWrong)

/-- 'laws.FnExactShare': WHATEVER THE INPUT: true; the input reads as it did. -/
def fnExactShareSpec : ChangeSpec := { name := "fnExactShare", fn := fun _ => fun
  | [d1, d2] => { results := [.lit (.bool true)], args := [d1, d2] }
  | _ => none }
def fnExactShareRow : OpenClaim := { program := "ytkgnipaponfbkaa", sum := "934eef685e254c3c4a1c16c2aa234bf77a39071dc8c1e6de1fc01f3197186bda", func := "loop.example/g00400/laws.FnExactShare", spec := "fnExactShare", named := ["math/bits.divideError", "math/bits.overflowError"], apart := false }
def FnExactShareSaid : Prop := fnExactShareRow.holds Try.pinned (OpenSpec.ofChange fnExactShareSpec)

/-- ITS FALSE NEIGHBOUR: 'it returns false'. Refute it at one input. -/
def fnExactShareWrong : ChangeSpec := { name := "fnExactShare", fn := fun _ => fun
  | [d1, d2] => { results := [.lit (.bool false)], args := [d1, d2] }
  | _ => none }
def FnExactShareWrongFalsely : Prop := fnExactShareRow.holds Try.pinned (OpenSpec.ofChange fnExactShareWrong)

/-- 'laws.FnExactAccPast': WHATEVER THE INPUT: true; the input reads as it did. -/
def fnExactAccPastSpec : ChangeSpec := { name := "fnExactAccPast", fn := fun _ => fun
  | [d1, d2] => { results := [.lit (.bool true)], args := [d1, d2] }
  | _ => none }
def fnExactAccPastRow : OpenClaim := { program := "ytkgnipaponfbkaa", sum := "934eef685e254c3c4a1c16c2aa234bf77a39071dc8c1e6de1fc01f3197186bda", func := "loop.example/g00400/laws.FnExactAccPast", spec := "fnExactAccPast", apart := false }
def FnExactAccPastSaid : Prop := fnExactAccPastRow.holds Try.pinned (OpenSpec.ofChange fnExactAccPastSpec)

/-- ITS FALSE NEIGHBOUR: 'it returns false'. Refute it at one input. -/
def fnExactAccPastWrong : ChangeSpec := { name := "fnExactAccPast", fn := fun _ => fun
  | [d1, d2] => { results := [.lit (.bool false)], args := [d1, d2] }
  | _ => none }
def FnExactAccPastWrongFalsely : Prop := fnExactAccPastRow.holds Try.pinned (OpenSpec.ofChange fnExactAccPastWrong)

/- THE SECOND FORM. 'bulk': how many values and letters a reading holds, each counted each time it is reached (what is shared counts as often as it is met; a slice's spare places count too). A statement '..UptoSaid' is the law's where the arguments, and the package variables that the reading takes, are together of bulk at most 1048576: NARROWER than '..Said'. Prove '..Said' where nothing that the law and all that it calls make is longer than what came in: it says more and counts as full. Else prove '..UptoSaid'. A law counts once. -/
mutual
def uptoBulk {H : Type} : DataW H → Nat
  | .lit (.string bytes) => bytes.length + 1
  | .lit _ => 1
  | .nil => 1
  | .ptr d => uptoBulk d + 1
  | .slice elems spare => uptoBulkAll elems + uptoBulkAll spare + 1
  | .agg parts => uptoBulkAll parts + 1
  | .iface _ d => uptoBulk d + 1
  | .map entries => uptoBulkEntries entries + 1
  | .held _ => 1
def uptoBulkAll {H : Type} : List (DataW H) → Nat
  | [] => 0
  | d :: r => uptoBulk d + uptoBulkAll r
def uptoBulkEntries {H : Type} : List (Lit × DataW H) → Nat
  | [] => 0
  | x :: r => uptoBulkEntry x + uptoBulkEntries r
def uptoBulkEntry {H : Type} : Lit × DataW H → Nat
  | (.string bytes, d) => bytes.length + uptoBulk d + 1
  | (_, d) => uptoBulk d + 1
 end
def uptoSmall : (H : Type) → List (DataW H) → Bool := fun _ ds => decide (uptoBulkAll ds ≤ 1048576)
def OpenSpec.upto (s : _root_.Go.ChangeSpec) : _root_.Go.OpenSpec := { _root_.Go.OpenSpec.ofChange s with cond := some uptoSmall }

/-- 'laws.FnExactPurseOk', WHERE WHAT IT READS IS OF BULK AT MOST 1048576: true; the input reads as it did. -/
def fnExactPurseOkUptoRow : OpenClaim := { program := "ytkgnipaponfbkaa", sum := "934eef685e254c3c4a1c16c2aa234bf77a39071dc8c1e6de1fc01f3197186bda", func := "loop.example/g00400/laws.FnExactPurseOk", spec := "fnExactPurseOk", apart := false, narrowed := true }
def FnExactPurseOkUptoSaid : Prop := fnExactPurseOkUptoRow.holds Try.pinned (OpenSpec.upto fnExactPurseOkSpec)

/-- 'laws.FnExactUsed', WHERE WHAT IT READS IS OF BULK AT MOST 1048576: true; the input reads as it did. -/
def fnExactUsedUptoRow : OpenClaim := { program := "ytkgnipaponfbkaa", sum := "934eef685e254c3c4a1c16c2aa234bf77a39071dc8c1e6de1fc01f3197186bda", func := "loop.example/g00400/laws.FnExactUsed", spec := "fnExactUsed", apart := false, narrowed := true }
def FnExactUsedUptoSaid : Prop := fnExactUsedUptoRow.holds Try.pinned (OpenSpec.upto fnExactUsedSpec)

/-- 'laws.FnExactSides', WHERE WHAT IT READS IS OF BULK AT MOST 1048576: true; the input reads as it did. -/
def fnExactSidesUptoRow : OpenClaim := { program := "ytkgnipaponfbkaa", sum := "934eef685e254c3c4a1c16c2aa234bf77a39071dc8c1e6de1fc01f3197186bda", func := "loop.example/g00400/laws.FnExactSides", spec := "fnExactSides", apart := false, narrowed := true }
def FnExactSidesUptoSaid : Prop := fnExactSidesUptoRow.holds Try.pinned (OpenSpec.upto fnExactSidesSpec)

/-- 'laws.FnExactMaySpend', WHERE WHAT IT READS IS OF BULK AT MOST 1048576: true; the input reads as it did. -/
def fnExactMaySpendUptoRow : OpenClaim := { program := "ytkgnipaponfbkaa", sum := "934eef685e254c3c4a1c16c2aa234bf77a39071dc8c1e6de1fc01f3197186bda", func := "loop.example/g00400/laws.FnExactMaySpend", spec := "fnExactMaySpend", apart := false, narrowed := true }
def FnExactMaySpendUptoSaid : Prop := fnExactMaySpendUptoRow.holds Try.pinned (OpenSpec.upto fnExactMaySpendSpec)

/-- 'laws.FnExactBucketAt', WHERE WHAT IT READS IS OF BULK AT MOST 1048576: true; the input reads as it did. -/
def fnExactBucketAtUptoRow : OpenClaim := { program := "ytkgnipaponfbkaa", sum := "934eef685e254c3c4a1c16c2aa234bf77a39071dc8c1e6de1fc01f3197186bda", func := "loop.example/g00400/laws.FnExactBucketAt", spec := "fnExactBucketAt", named := ["math/bits.divideError", "math/bits.overflowError"], apart := false, narrowed := true }
def FnExactBucketAtUptoSaid : Prop := fnExactBucketAtUptoRow.holds Try.pinned (OpenSpec.upto fnExactBucketAtSpec)

/-- 'laws.FnExactRate', WHERE WHAT IT READS IS OF BULK AT MOST 1048576: true; the input reads as it did. -/
def fnExactRateUptoRow : OpenClaim := { program := "ytkgnipaponfbkaa", sum := "934eef685e254c3c4a1c16c2aa234bf77a39071dc8c1e6de1fc01f3197186bda", func := "loop.example/g00400/laws.FnExactRate", spec := "fnExactRate", named := ["math/bits.divideError", "math/bits.overflowError"], apart := false, narrowed := true }
def FnExactRateUptoSaid : Prop := fnExactRateUptoRow.holds Try.pinned (OpenSpec.upto fnExactRateSpec)

/-- 'laws.FnExactReverse', WHERE WHAT IT READS IS OF BULK AT MOST 1048576: true; the input reads as it did. -/
def fnExactReverseUptoRow : OpenClaim := { program := "ytkgnipaponfbkaa", sum := "934eef685e254c3c4a1c16c2aa234bf77a39071dc8c1e6de1fc01f3197186bda", func := "loop.example/g00400/laws.FnExactReverse", spec := "fnExactReverse", apart := false, narrowed := true }
def FnExactReverseUptoSaid : Prop := fnExactReverseUptoRow.holds Try.pinned (OpenSpec.upto fnExactReverseSpec)

/-- 'laws.FnExactBucketTake', WHERE WHAT IT READS IS OF BULK AT MOST 1048576: true; the input reads as it did. -/
def fnExactBucketTakeUptoRow : OpenClaim := { program := "ytkgnipaponfbkaa", sum := "934eef685e254c3c4a1c16c2aa234bf77a39071dc8c1e6de1fc01f3197186bda", func := "loop.example/g00400/laws.FnExactBucketTake", spec := "fnExactBucketTake", named := ["math/bits.divideError", "math/bits.overflowError"], apart := false, narrowed := true }
def FnExactBucketTakeUptoSaid : Prop := fnExactBucketTakeUptoRow.holds Try.pinned (OpenSpec.upto fnExactBucketTakeSpec)

/-- 'laws.FnExactPurseWhen', WHERE WHAT IT READS IS OF BULK AT MOST 1048576: true; the input reads as it did. -/
def fnExactPurseWhenUptoRow : OpenClaim := { program := "ytkgnipaponfbkaa", sum := "934eef685e254c3c4a1c16c2aa234bf77a39071dc8c1e6de1fc01f3197186bda", func := "loop.example/g00400/laws.FnExactPurseWhen", spec := "fnExactPurseWhen", apart := false, narrowed := true }
def FnExactPurseWhenUptoSaid : Prop := fnExactPurseWhenUptoRow.holds Try.pinned (OpenSpec.upto fnExactPurseWhenSpec)

/-- 'laws.FnExactSpend', WHERE WHAT IT READS IS OF BULK AT MOST 1048576: true; the input reads as it did. -/
def fnExactSpendUptoRow : OpenClaim := { program := "ytkgnipaponfbkaa", sum := "934eef685e254c3c4a1c16c2aa234bf77a39071dc8c1e6de1fc01f3197186bda", func := "loop.example/g00400/laws.FnExactSpend", spec := "fnExactSpend", apart := false, narrowed := true }
def FnExactSpendUptoSaid : Prop := fnExactSpendUptoRow.holds Try.pinned (OpenSpec.upto fnExactSpendSpec)

/-- 'laws.FnExactShare', WHERE WHAT IT READS IS OF BULK AT MOST 1048576: true; the input reads as it did. -/
def fnExactShareUptoRow : OpenClaim := { program := "ytkgnipaponfbkaa", sum := "934eef685e254c3c4a1c16c2aa234bf77a39071dc8c1e6de1fc01f3197186bda", func := "loop.example/g00400/laws.FnExactShare", spec := "fnExactShare", named := ["math/bits.divideError", "math/bits.overflowError"], apart := false, narrowed := true }
def FnExactShareUptoSaid : Prop := fnExactShareUptoRow.holds Try.pinned (OpenSpec.upto fnExactShareSpec)

/-- 'laws.FnExactAccPast', WHERE WHAT IT READS IS OF BULK AT MOST 1048576: true; the input reads as it did. -/
def fnExactAccPastUptoRow : OpenClaim := { program := "ytkgnipaponfbkaa", sum := "934eef685e254c3c4a1c16c2aa234bf77a39071dc8c1e6de1fc01f3197186bda", func := "loop.example/g00400/laws.FnExactAccPast", spec := "fnExactAccPast", apart := false, narrowed := true }
def FnExactAccPastUptoSaid : Prop := fnExactAccPastUptoRow.holds Try.pinned (OpenSpec.upto fnExactAccPastSpec)

end Rows
end Go.Proofs.Ytkgnipaponfbkaa
