/-
  No cell of these rows narrows 'for every input' (looked for: loops, veiled, ifaces, maps, wideKeys, modest, calm, conditions, laid).
  DERIVED. THE GIVEN ROWS OF THIS SEAT. 6 by the template 'for every input the law returns true; each argument reads behind the call as it read before'; 0 by the template 'total and deterministic' (their statements: YtcflmmljmjcdaaaTotals.lean).
  GIVEN WITH THE SEED: the statements are not yours to turn. If you find one false, say at which input.
  Laid BY PROGRAM, IN A SANDBOX (cutbox-rows.mjs): the forced cells as the released guide's own fill.sh prints them over the translation df8db19244736ffb… (all of the seat's roots in one cut). By AI agents, Wed Nov 11 2026. No macro, syntax, notation, axiom, sorry.
-/
import Derived.Test.YtcflmmljmjcdaaaChecked
import GoSem.Claim
import GoSem.ClaimJoined
import GoSem.ClaimMapViews
import Derived.JoinedTies
import Derived.KernelRfl
namespace Go.Proofs.Ytcflmmljmjcdaaa
/- THE CELL 'sum', in the pinned program and in every row, IS THE sha256 OF THE DUMP (.gsa) THAT YtcflmmljmjcdaaaProg.lean LOADS. Nothing in Lean hashes anything: it is a label: what it is worth is what the hold of that sum in a sandbox is worth. -/
noncomputable def Try.pinned : Pinned := { name := "ytcflmmljmjcdaaa", sum := "df8db19244736ffbfa04b1c8d60e29d891ade921377e3fc68340cb5f142d78bd", checked := Try.checked }
namespace Rows
def none {H : Type} : Left H := { results := [], args := [] }

/-- 'laws.FnExactBucketFill': WHATEVER THE INPUT: true; the input reads as it did. -/
def fnExactBucketFillSpec : ChangeSpec := { name := "fnExactBucketFill", fn := fun _ => fun
  | [d1, d2] => { results := [.lit (.bool true)], args := [d1, d2] }
  | _ => none }
def fnExactBucketFillRow : OpenClaim := { program := "ytcflmmljmjcdaaa", sum := "df8db19244736ffbfa04b1c8d60e29d891ade921377e3fc68340cb5f142d78bd", func := "loop.example/g00400/laws.FnExactBucketFill", spec := "fnExactBucketFill", apart := false }
def FnExactBucketFillSaid : Prop := fnExactBucketFillRow.holds Try.pinned (OpenSpec.ofChange fnExactBucketFillSpec)

/-- ITS FALSE NEIGHBOUR: 'it returns false'. Refute it at one input. -/
def fnExactBucketFillWrong : ChangeSpec := { name := "fnExactBucketFill", fn := fun _ => fun
  | [d1, d2] => { results := [.lit (.bool false)], args := [d1, d2] }
  | _ => none }
def FnExactBucketFillWrongFalsely : Prop := fnExactBucketFillRow.holds Try.pinned (OpenSpec.ofChange fnExactBucketFillWrong)

/-- 'laws.FnExactBucketWhen': WHATEVER THE INPUT: true; the input reads as it did. -/
def fnExactBucketWhenSpec : ChangeSpec := { name := "fnExactBucketWhen", fn := fun _ => fun
  | [d1, d2] => { results := [.lit (.bool true)], args := [d1, d2] }
  | _ => none }
def fnExactBucketWhenRow : OpenClaim := { program := "ytcflmmljmjcdaaa", sum := "df8db19244736ffbfa04b1c8d60e29d891ade921377e3fc68340cb5f142d78bd", func := "loop.example/g00400/laws.FnExactBucketWhen", spec := "fnExactBucketWhen", apart := false }
def FnExactBucketWhenSaid : Prop := fnExactBucketWhenRow.holds Try.pinned (OpenSpec.ofChange fnExactBucketWhenSpec)

/-- ITS FALSE NEIGHBOUR: 'it returns false'. Refute it at one input. -/
def fnExactBucketWhenWrong : ChangeSpec := { name := "fnExactBucketWhen", fn := fun _ => fun
  | [d1, d2] => { results := [.lit (.bool false)], args := [d1, d2] }
  | _ => none }
def FnExactBucketWhenWrongFalsely : Prop := fnExactBucketWhenRow.holds Try.pinned (OpenSpec.ofChange fnExactBucketWhenWrong)

/-- 'laws.FnExactDebtsOk': WHATEVER THE INPUT: true; the input reads as it did. -/
def fnExactDebtsOkSpec : ChangeSpec := { name := "fnExactDebtsOk", fn := fun _ => fun
  | [d] => { results := [.lit (.bool true)], args := [d] }
  | _ => none }
def fnExactDebtsOkRow : OpenClaim := { program := "ytcflmmljmjcdaaa", sum := "df8db19244736ffbfa04b1c8d60e29d891ade921377e3fc68340cb5f142d78bd", func := "loop.example/g00400/laws.FnExactDebtsOk", spec := "fnExactDebtsOk", apart := false }
def FnExactDebtsOkSaid : Prop := fnExactDebtsOkRow.holds Try.pinned (OpenSpec.ofChange fnExactDebtsOkSpec)

/-- ITS FALSE NEIGHBOUR: 'it returns false'. Refute it at one input. -/
def fnExactDebtsOkWrong : ChangeSpec := { name := "fnExactDebtsOk", fn := fun _ => fun
  | [d] => { results := [.lit (.bool false)], args := [d] }
  | _ => none }
def FnExactDebtsOkWrongFalsely : Prop := fnExactDebtsOkRow.holds Try.pinned (OpenSpec.ofChange fnExactDebtsOkWrong)

/-- 'laws.FnExactBestGain': WHATEVER THE INPUT: true; the input reads as it did. -/
def fnExactBestGainSpec : ChangeSpec := { name := "fnExactBestGain", fn := fun _ => fun
  | [d] => { results := [.lit (.bool true)], args := [d] }
  | _ => none }
def fnExactBestGainRow : OpenClaim := { program := "ytcflmmljmjcdaaa", sum := "df8db19244736ffbfa04b1c8d60e29d891ade921377e3fc68340cb5f142d78bd", func := "loop.example/g00400/laws.FnExactBestGain", spec := "fnExactBestGain", apart := false }
def FnExactBestGainSaid : Prop := fnExactBestGainRow.holds Try.pinned (OpenSpec.ofChange fnExactBestGainSpec)

/-- ITS FALSE NEIGHBOUR: 'it returns false'. Refute it at one input. -/
def fnExactBestGainWrong : ChangeSpec := { name := "fnExactBestGain", fn := fun _ => fun
  | [d] => { results := [.lit (.bool false)], args := [d] }
  | _ => none }
def FnExactBestGainWrongFalsely : Prop := fnExactBestGainRow.holds Try.pinned (OpenSpec.ofChange fnExactBestGainWrong)

/-- 'laws.FnExactGainSum': WHATEVER THE INPUT: true; the input reads as it did. -/
def fnExactGainSumSpec : ChangeSpec := { name := "fnExactGainSum", fn := fun _ => fun
  | [d] => { results := [.lit (.bool true)], args := [d] }
  | _ => none }
def fnExactGainSumRow : OpenClaim := { program := "ytcflmmljmjcdaaa", sum := "df8db19244736ffbfa04b1c8d60e29d891ade921377e3fc68340cb5f142d78bd", func := "loop.example/g00400/laws.FnExactGainSum", spec := "fnExactGainSum", apart := false }
def FnExactGainSumSaid : Prop := fnExactGainSumRow.holds Try.pinned (OpenSpec.ofChange fnExactGainSumSpec)

/-- ITS FALSE NEIGHBOUR: 'it returns false'. Refute it at one input. -/
def fnExactGainSumWrong : ChangeSpec := { name := "fnExactGainSum", fn := fun _ => fun
  | [d] => { results := [.lit (.bool false)], args := [d] }
  | _ => none }
def FnExactGainSumWrongFalsely : Prop := fnExactGainSumRow.holds Try.pinned (OpenSpec.ofChange fnExactGainSumWrong)

/-- 'laws.FnExactOwed': WHATEVER THE INPUT: true; the input reads as it did. -/
def fnExactOwedSpec : ChangeSpec := { name := "fnExactOwed", fn := fun _ => fun
  | [d1, d2] => { results := [.lit (.bool true)], args := [d1, d2] }
  | _ => none }
def fnExactOwedRow : OpenClaim := { program := "ytcflmmljmjcdaaa", sum := "df8db19244736ffbfa04b1c8d60e29d891ade921377e3fc68340cb5f142d78bd", func := "loop.example/g00400/laws.FnExactOwed", spec := "fnExactOwed", apart := false }
def FnExactOwedSaid : Prop := fnExactOwedRow.holds Try.pinned (OpenSpec.ofChange fnExactOwedSpec)

/-- ITS FALSE NEIGHBOUR: 'it returns false'. Refute it at one input. -/
def fnExactOwedWrong : ChangeSpec := { name := "fnExactOwed", fn := fun _ => fun
  | [d1, d2] => { results := [.lit (.bool false)], args := [d1, d2] }
  | _ => none }
def FnExactOwedWrongFalsely : Prop := fnExactOwedRow.holds Try.pinned (OpenSpec.ofChange fnExactOwedWrong)

/- THE SECOND FORM. 'bulk': how many values and letters a reading holds, each counted each time it is reached (what is shared counts as often as it is met; a slice's spare places count too). A statement '..UptoSaid' is the law's where the arguments, and the package variables that the reading takes, are together of bulk at most 1048576: NARROWER than '..Said'. Prove '..Said' where nothing that the law and all that it calls make is longer than what came in: it says more and counts as full. Else prove '..UptoSaid'. A law counts once. -/
mutual
def uptoBulk {H : Type} : DataW H → Nat
  | .lit (.string bytes) => bytes.length + 1
  | .lit _ => 1
  | .nil => 1
  | .ptr d => uptoBulk d + 1
  | .slice elems spare => uptoBulkAll elems + uptoBulkAll spare + 1
  | .agg parts => uptoBulkAll parts + 1
  | .iface _ d => uptoBulk d + 1
  | .map entries => uptoBulkEntries entries + 1
  | .held _ => 1
def uptoBulkAll {H : Type} : List (DataW H) → Nat
  | [] => 0
  | d :: r => uptoBulk d + uptoBulkAll r
def uptoBulkEntries {H : Type} : List (Lit × DataW H) → Nat
  | [] => 0
  | x :: r => uptoBulkEntry x + uptoBulkEntries r
def uptoBulkEntry {H : Type} : Lit × DataW H → Nat
  | (.string bytes, d) => bytes.length + uptoBulk d + 1
  | (_, d) => uptoBulk d + 1
 end
def uptoSmall : (H : Type) → List (DataW H) → Bool := fun _ ds => decide (uptoBulkAll ds ≤ 1048576)
def OpenSpec.upto (s : _root_.Go.ChangeSpec) : _root_.Go.OpenSpec := { _root_.Go.OpenSpec.ofChange s with cond := some uptoSmall }

/-- 'laws.FnExactBucketFill', WHERE WHAT IT READS IS OF BULK AT MOST 1048576: true; the input reads as it did. -/
def fnExactBucketFillUptoRow : OpenClaim := { program := "ytcflmmljmjcdaaa", sum := "df8db19244736ffbfa04b1c8d60e29d891ade921377e3fc68340cb5f142d78bd", func := "loop.example/g00400/laws.FnExactBucketFill", spec := "fnExactBucketFill", apart := false, narrowed := true }
def FnExactBucketFillUptoSaid : Prop := fnExactBucketFillUptoRow.holds Try.pinned (OpenSpec.upto fnExactBucketFillSpec)

/-- 'laws.FnExactBucketWhen', WHERE WHAT IT READS IS OF BULK AT MOST 1048576: true; the input reads as it did. -/
def fnExactBucketWhenUptoRow : OpenClaim := { program := "ytcflmmljmjcdaaa", sum := "df8db19244736ffbfa04b1c8d60e29d891ade921377e3fc68340cb5f142d78bd", func := "loop.example/g00400/laws.FnExactBucketWhen", spec := "fnExactBucketWhen", apart := false, narrowed := true }
def FnExactBucketWhenUptoSaid : Prop := fnExactBucketWhenUptoRow.holds Try.pinned (OpenSpec.upto fnExactBucketWhenSpec)

/-- 'laws.FnExactDebtsOk', WHERE WHAT IT READS IS OF BULK AT MOST 1048576: true; the input reads as it did. -/
def fnExactDebtsOkUptoRow : OpenClaim := { program := "ytcflmmljmjcdaaa", sum := "df8db19244736ffbfa04b1c8d60e29d891ade921377e3fc68340cb5f142d78bd", func := "loop.example/g00400/laws.FnExactDebtsOk", spec := "fnExactDebtsOk", apart := false, narrowed := true }
def FnExactDebtsOkUptoSaid : Prop := fnExactDebtsOkUptoRow.holds Try.pinned (OpenSpec.upto fnExactDebtsOkSpec)

/-- 'laws.FnExactBestGain', WHERE WHAT IT READS IS OF BULK AT MOST 1048576: true; the input reads as it did. -/
def fnExactBestGainUptoRow : OpenClaim := { program := "ytcflmmljmjcdaaa", sum := "df8db19244736ffbfa04b1c8d60e29d891ade921377e3fc68340cb5f142d78bd", func := "loop.example/g00400/laws.FnExactBestGain", spec := "fnExactBestGain", apart := false, narrowed := true }
def FnExactBestGainUptoSaid : Prop := fnExactBestGainUptoRow.holds Try.pinned (OpenSpec.upto fnExactBestGainSpec)

/-- 'laws.FnExactGainSum', WHERE WHAT IT READS IS OF BULK AT MOST 1048576: true; the input reads as it did. -/
def fnExactGainSumUptoRow : OpenClaim := { program := "ytcflmmljmjcdaaa", sum := "df8db19244736ffbfa04b1c8d60e29d891ade921377e3fc68340cb5f142d78bd", func := "loop.example/g00400/laws.FnExactGainSum", spec := "fnExactGainSum", apart := false, narrowed := true }
def FnExactGainSumUptoSaid : Prop := fnExactGainSumUptoRow.holds Try.pinned (OpenSpec.upto fnExactGainSumSpec)

/-- 'laws.FnExactOwed', WHERE WHAT IT READS IS OF BULK AT MOST 1048576: true; the input reads as it did. -/
def fnExactOwedUptoRow : OpenClaim := { program := "ytcflmmljmjcdaaa", sum := "df8db19244736ffbfa04b1c8d60e29d891ade921377e3fc68340cb5f142d78bd", func := "loop.example/g00400/laws.FnExactOwed", spec := "fnExactOwed", apart := false, narrowed := true }
def FnExactOwedUptoSaid : Prop := fnExactOwedUptoRow.holds Try.pinned (OpenSpec.upto fnExactOwedSpec)

end Rows
end Go.Proofs.Ytcflmmljmjcdaaa
