/-
  No cell of these rows narrows 'for every input' (looked for: loops, veiled, ifaces, maps, wideKeys, modest, calm, conditions, laid).
  DERIVED. THE GIVEN ROWS OF THIS SEAT. 8 by the template 'for every input the law returns true; each argument reads behind the call as it read before'; 0 by the template 'total and deterministic' (their statements: YtmafdoloidlfeaaTotals.lean).
  GIVEN WITH THE SEED: the statements are not yours to turn. If you find one false, say at which input.
  Laid BY PROGRAM, IN A SANDBOX (cutbox-rows.mjs): the forced cells as the released guide's own fill.sh prints them over the translation 54345474b942f21d… (all of the seat's roots in one cut). By AI agents, Wed Nov 11 2026. No macro, syntax, notation, axiom, sorry.
-/
import Derived.Test.YtmafdoloidlfeaaChecked
import GoSem.Claim
import GoSem.ClaimJoined
import GoSem.ClaimMapViews
import Derived.JoinedTies
import Derived.KernelRfl
namespace Go.Proofs.Ytmafdoloidlfeaa
/- THE CELL 'sum', in the pinned program and in every row, IS THE sha256 OF THE DUMP (.gsa) THAT YtmafdoloidlfeaaProg.lean LOADS. Nothing in Lean hashes anything: it is a label: what it is worth is what the hold of that sum in a sandbox is worth. -/
noncomputable def Try.pinned : Pinned := { name := "ytmafdoloidlfeaa", sum := "54345474b942f21d39e8fc00d5902a51a88748966fc0ce7aa09e10c1b06dbfe6", checked := Try.checked }
namespace Rows
def none {H : Type} : Left H := { results := [], args := [] }

/-- 'laws.FnExactUnder': WHATEVER THE INPUT: true; the input reads as it did. -/
def fnExactUnderSpec : ChangeSpec := { name := "fnExactUnder", fn := fun _ => fun
  | [d1, d2] => { results := [.lit (.bool true)], args := [d1, d2] }
  | _ => none }
def fnExactUnderRow : OpenClaim := { program := "ytmafdoloidlfeaa", sum := "54345474b942f21d39e8fc00d5902a51a88748966fc0ce7aa09e10c1b06dbfe6", func := "loop.example/g00400/laws.FnExactUnder", spec := "fnExactUnder", unfollowed := true, recurses := true, apart := false }
def FnExactUnderSaid : Prop := fnExactUnderRow.holds Try.pinned (OpenSpec.ofChange fnExactUnderSpec)

/-- ITS FALSE NEIGHBOUR: 'it returns false'. Refute it at one input. -/
def fnExactUnderWrong : ChangeSpec := { name := "fnExactUnder", fn := fun _ => fun
  | [d1, d2] => { results := [.lit (.bool false)], args := [d1, d2] }
  | _ => none }
def FnExactUnderWrongFalsely : Prop := fnExactUnderRow.holds Try.pinned (OpenSpec.ofChange fnExactUnderWrong)

/-- 'laws.FnExactTotal': WHATEVER THE INPUT: true; the input reads as it did. -/
def fnExactTotalSpec : ChangeSpec := { name := "fnExactTotal", fn := fun _ => fun
  | [d] => { results := [.lit (.bool true)], args := [d] }
  | _ => none }
def fnExactTotalRow : OpenClaim := { program := "ytmafdoloidlfeaa", sum := "54345474b942f21d39e8fc00d5902a51a88748966fc0ce7aa09e10c1b06dbfe6", func := "loop.example/g00400/laws.FnExactTotal", spec := "fnExactTotal", unfollowed := true, recurses := true, apart := false }
def FnExactTotalSaid : Prop := fnExactTotalRow.holds Try.pinned (OpenSpec.ofChange fnExactTotalSpec)

/-- ITS FALSE NEIGHBOUR: 'it returns false'. Refute it at one input. -/
def fnExactTotalWrong : ChangeSpec := { name := "fnExactTotal", fn := fun _ => fun
  | [d] => { results := [.lit (.bool false)], args := [d] }
  | _ => none }
def FnExactTotalWrongFalsely : Prop := fnExactTotalRow.holds Try.pinned (OpenSpec.ofChange fnExactTotalWrong)

/-- 'laws.FnExactAfford': WHATEVER THE INPUT: true; the input reads as it did. -/
def fnExactAffordSpec : ChangeSpec := { name := "fnExactAfford", fn := fun _ => fun
  | [d1, d2, d3] => { results := [.lit (.bool true)], args := [d1, d2, d3] }
  | _ => none }
def fnExactAffordRow : OpenClaim := { program := "ytmafdoloidlfeaa", sum := "54345474b942f21d39e8fc00d5902a51a88748966fc0ce7aa09e10c1b06dbfe6", func := "loop.example/g00400/laws.FnExactAfford", spec := "fnExactAfford", named := ["math/bits.divideError", "math/bits.overflowError"], apart := false }
def FnExactAffordSaid : Prop := fnExactAffordRow.holds Try.pinned (OpenSpec.ofChange fnExactAffordSpec)

/-- ITS FALSE NEIGHBOUR: 'it returns false'. Refute it at one input. -/
def fnExactAffordWrong : ChangeSpec := { name := "fnExactAfford", fn := fun _ => fun
  | [d1, d2, d3] => { results := [.lit (.bool false)], args := [d1, d2, d3] }
  | _ => none }
def FnExactAffordWrongFalsely : Prop := fnExactAffordRow.holds Try.pinned (OpenSpec.ofChange fnExactAffordWrong)

/-- 'laws.FnExactPeersOf': WHATEVER THE INPUT: true; the input reads as it did. -/
def fnExactPeersOfSpec : ChangeSpec := { name := "fnExactPeersOf", fn := fun _ => fun
  | [d] => { results := [.lit (.bool true)], args := [d] }
  | _ => none }
def fnExactPeersOfRow : OpenClaim := { program := "ytmafdoloidlfeaa", sum := "54345474b942f21d39e8fc00d5902a51a88748966fc0ce7aa09e10c1b06dbfe6", func := "loop.example/g00400/laws.FnExactPeersOf", spec := "fnExactPeersOf", recurses := true, apart := false }
def FnExactPeersOfSaid : Prop := fnExactPeersOfRow.holds Try.pinned (OpenSpec.ofChange fnExactPeersOfSpec)

/-- ITS FALSE NEIGHBOUR: 'it returns false'. Refute it at one input. -/
def fnExactPeersOfWrong : ChangeSpec := { name := "fnExactPeersOf", fn := fun _ => fun
  | [d] => { results := [.lit (.bool false)], args := [d] }
  | _ => none }
def FnExactPeersOfWrongFalsely : Prop := fnExactPeersOfRow.holds Try.pinned (OpenSpec.ofChange fnExactPeersOfWrong)

/-- 'laws.FnExactAged': WHATEVER THE INPUT: true; the input reads as it did. -/
def fnExactAgedSpec : ChangeSpec := { name := "fnExactAged", fn := fun _ => fun
  | [d1, d2] => { results := [.lit (.bool true)], args := [d1, d2] }
  | _ => none }
def fnExactAgedRow : OpenClaim := { program := "ytmafdoloidlfeaa", sum := "54345474b942f21d39e8fc00d5902a51a88748966fc0ce7aa09e10c1b06dbfe6", func := "loop.example/g00400/laws.FnExactAged", spec := "fnExactAged", unfollowed := true, recurses := true, apart := false }
def FnExactAgedSaid : Prop := fnExactAgedRow.holds Try.pinned (OpenSpec.ofChange fnExactAgedSpec)

/-- ITS FALSE NEIGHBOUR: 'it returns false'. Refute it at one input. -/
def fnExactAgedWrong : ChangeSpec := { name := "fnExactAged", fn := fun _ => fun
  | [d1, d2] => { results := [.lit (.bool false)], args := [d1, d2] }
  | _ => none }
def FnExactAgedWrongFalsely : Prop := fnExactAgedRow.holds Try.pinned (OpenSpec.ofChange fnExactAgedWrong)

/-- 'laws.FnExactRings': WHATEVER THE INPUT: true; the input reads as it did. -/
def fnExactRingsSpec : ChangeSpec := { name := "fnExactRings", fn := fun _ => fun
  | [d] => { results := [.lit (.bool true)], args := [d] }
  | _ => none }
def fnExactRingsRow : OpenClaim := { program := "ytmafdoloidlfeaa", sum := "54345474b942f21d39e8fc00d5902a51a88748966fc0ce7aa09e10c1b06dbfe6", func := "loop.example/g00400/laws.FnExactRings", spec := "fnExactRings", recurses := true, apart := false }
def FnExactRingsSaid : Prop := fnExactRingsRow.holds Try.pinned (OpenSpec.ofChange fnExactRingsSpec)

/-- ITS FALSE NEIGHBOUR: 'it returns false'. Refute it at one input. -/
def fnExactRingsWrong : ChangeSpec := { name := "fnExactRings", fn := fun _ => fun
  | [d] => { results := [.lit (.bool false)], args := [d] }
  | _ => none }
def FnExactRingsWrongFalsely : Prop := fnExactRingsRow.holds Try.pinned (OpenSpec.ofChange fnExactRingsWrong)

/-- 'laws.FnExactNet': WHATEVER THE INPUT: true; the input reads as it did. -/
def fnExactNetSpec : ChangeSpec := { name := "fnExactNet", fn := fun _ => fun
  | [d] => { results := [.lit (.bool true)], args := [d] }
  | _ => none }
def fnExactNetRow : OpenClaim := { program := "ytmafdoloidlfeaa", sum := "54345474b942f21d39e8fc00d5902a51a88748966fc0ce7aa09e10c1b06dbfe6", func := "loop.example/g00400/laws.FnExactNet", spec := "fnExactNet", recurses := true, apart := false }
def FnExactNetSaid : Prop := fnExactNetRow.holds Try.pinned (OpenSpec.ofChange fnExactNetSpec)

/-- ITS FALSE NEIGHBOUR: 'it returns false'. Refute it at one input. -/
def fnExactNetWrong : ChangeSpec := { name := "fnExactNet", fn := fun _ => fun
  | [d] => { results := [.lit (.bool false)], args := [d] }
  | _ => none }
def FnExactNetWrongFalsely : Prop := fnExactNetRow.holds Try.pinned (OpenSpec.ofChange fnExactNetWrong)

/-- 'laws.FnExactSweep': WHATEVER THE INPUT: true; the input reads as it did. -/
def fnExactSweepSpec : ChangeSpec := { name := "fnExactSweep", fn := fun _ => fun
  | [d1, d2] => { results := [.lit (.bool true)], args := [d1, d2] }
  | _ => none }
def fnExactSweepRow : OpenClaim := { program := "ytmafdoloidlfeaa", sum := "54345474b942f21d39e8fc00d5902a51a88748966fc0ce7aa09e10c1b06dbfe6", func := "loop.example/g00400/laws.FnExactSweep", spec := "fnExactSweep", unfollowed := true, recurses := true, apart := false }
def FnExactSweepSaid : Prop := fnExactSweepRow.holds Try.pinned (OpenSpec.ofChange fnExactSweepSpec)

/-- ITS FALSE NEIGHBOUR: 'it returns false'. Refute it at one input. -/
def fnExactSweepWrong : ChangeSpec := { name := "fnExactSweep", fn := fun _ => fun
  | [d1, d2] => { results := [.lit (.bool false)], args := [d1, d2] }
  | _ => none }
def FnExactSweepWrongFalsely : Prop := fnExactSweepRow.holds Try.pinned (OpenSpec.ofChange fnExactSweepWrong)

/- THE SECOND FORM. 'bulk': how many values and letters a reading holds, each counted each time it is reached (what is shared counts as often as it is met; a slice's spare places count too). A statement '..UptoSaid' is the law's where the arguments, and the package variables that the reading takes, are together of bulk at most 1048576: NARROWER than '..Said'. Prove '..Said' where nothing that the law and all that it calls make is longer than what came in: it says more and counts as full. Else prove '..UptoSaid'. A law counts once. -/
mutual
def uptoBulk {H : Type} : DataW H → Nat
  | .lit (.string bytes) => bytes.length + 1
  | .lit _ => 1
  | .nil => 1
  | .ptr d => uptoBulk d + 1
  | .slice elems spare => uptoBulkAll elems + uptoBulkAll spare + 1
  | .agg parts => uptoBulkAll parts + 1
  | .iface _ d => uptoBulk d + 1
  | .map entries => uptoBulkEntries entries + 1
  | .held _ => 1
def uptoBulkAll {H : Type} : List (DataW H) → Nat
  | [] => 0
  | d :: r => uptoBulk d + uptoBulkAll r
def uptoBulkEntries {H : Type} : List (Lit × DataW H) → Nat
  | [] => 0
  | x :: r => uptoBulkEntry x + uptoBulkEntries r
def uptoBulkEntry {H : Type} : Lit × DataW H → Nat
  | (.string bytes, d) => bytes.length + uptoBulk d + 1
  | (_, d) => uptoBulk d + 1
 end
def uptoSmall : (H : Type) → List (DataW H) → Bool := fun _ ds => decide (uptoBulkAll ds ≤ 1048576)
def OpenSpec.upto (s : _root_.Go.ChangeSpec) : _root_.Go.OpenSpec := { _root_.Go.OpenSpec.ofChange s with cond := some uptoSmall }

/-- 'laws.FnExactUnder', WHERE WHAT IT READS IS OF BULK AT MOST 1048576: true; the input reads as it did. -/
def fnExactUnderUptoRow : OpenClaim := { program := "ytmafdoloidlfeaa", sum := "54345474b942f21d39e8fc00d5902a51a88748966fc0ce7aa09e10c1b06dbfe6", func := "loop.example/g00400/laws.FnExactUnder", spec := "fnExactUnder", unfollowed := true, recurses := true, apart := false, narrowed := true }
def FnExactUnderUptoSaid : Prop := fnExactUnderUptoRow.holds Try.pinned (OpenSpec.upto fnExactUnderSpec)

/-- 'laws.FnExactTotal', WHERE WHAT IT READS IS OF BULK AT MOST 1048576: true; the input reads as it did. -/
def fnExactTotalUptoRow : OpenClaim := { program := "ytmafdoloidlfeaa", sum := "54345474b942f21d39e8fc00d5902a51a88748966fc0ce7aa09e10c1b06dbfe6", func := "loop.example/g00400/laws.FnExactTotal", spec := "fnExactTotal", unfollowed := true, recurses := true, apart := false, narrowed := true }
def FnExactTotalUptoSaid : Prop := fnExactTotalUptoRow.holds Try.pinned (OpenSpec.upto fnExactTotalSpec)

/-- 'laws.FnExactAfford', WHERE WHAT IT READS IS OF BULK AT MOST 1048576: true; the input reads as it did. -/
def fnExactAffordUptoRow : OpenClaim := { program := "ytmafdoloidlfeaa", sum := "54345474b942f21d39e8fc00d5902a51a88748966fc0ce7aa09e10c1b06dbfe6", func := "loop.example/g00400/laws.FnExactAfford", spec := "fnExactAfford", named := ["math/bits.divideError", "math/bits.overflowError"], apart := false, narrowed := true }
def FnExactAffordUptoSaid : Prop := fnExactAffordUptoRow.holds Try.pinned (OpenSpec.upto fnExactAffordSpec)

/-- 'laws.FnExactPeersOf', WHERE WHAT IT READS IS OF BULK AT MOST 1048576: true; the input reads as it did. -/
def fnExactPeersOfUptoRow : OpenClaim := { program := "ytmafdoloidlfeaa", sum := "54345474b942f21d39e8fc00d5902a51a88748966fc0ce7aa09e10c1b06dbfe6", func := "loop.example/g00400/laws.FnExactPeersOf", spec := "fnExactPeersOf", recurses := true, apart := false, narrowed := true }
def FnExactPeersOfUptoSaid : Prop := fnExactPeersOfUptoRow.holds Try.pinned (OpenSpec.upto fnExactPeersOfSpec)

/-- 'laws.FnExactAged', WHERE WHAT IT READS IS OF BULK AT MOST 1048576: true; the input reads as it did. -/
def fnExactAgedUptoRow : OpenClaim := { program := "ytmafdoloidlfeaa", sum := "54345474b942f21d39e8fc00d5902a51a88748966fc0ce7aa09e10c1b06dbfe6", func := "loop.example/g00400/laws.FnExactAged", spec := "fnExactAged", unfollowed := true, recurses := true, apart := false, narrowed := true }
def FnExactAgedUptoSaid : Prop := fnExactAgedUptoRow.holds Try.pinned (OpenSpec.upto fnExactAgedSpec)

/-- 'laws.FnExactRings', WHERE WHAT IT READS IS OF BULK AT MOST 1048576: true; the input reads as it did. -/
def fnExactRingsUptoRow : OpenClaim := { program := "ytmafdoloidlfeaa", sum := "54345474b942f21d39e8fc00d5902a51a88748966fc0ce7aa09e10c1b06dbfe6", func := "loop.example/g00400/laws.FnExactRings", spec := "fnExactRings", recurses := true, apart := false, narrowed := true }
def FnExactRingsUptoSaid : Prop := fnExactRingsUptoRow.holds Try.pinned (OpenSpec.upto fnExactRingsSpec)

/-- 'laws.FnExactNet', WHERE WHAT IT READS IS OF BULK AT MOST 1048576: true; the input reads as it did. -/
def fnExactNetUptoRow : OpenClaim := { program := "ytmafdoloidlfeaa", sum := "54345474b942f21d39e8fc00d5902a51a88748966fc0ce7aa09e10c1b06dbfe6", func := "loop.example/g00400/laws.FnExactNet", spec := "fnExactNet", recurses := true, apart := false, narrowed := true }
def FnExactNetUptoSaid : Prop := fnExactNetUptoRow.holds Try.pinned (OpenSpec.upto fnExactNetSpec)

/-- 'laws.FnExactSweep', WHERE WHAT IT READS IS OF BULK AT MOST 1048576: true; the input reads as it did. -/
def fnExactSweepUptoRow : OpenClaim := { program := "ytmafdoloidlfeaa", sum := "54345474b942f21d39e8fc00d5902a51a88748966fc0ce7aa09e10c1b06dbfe6", func := "loop.example/g00400/laws.FnExactSweep", spec := "fnExactSweep", unfollowed := true, recurses := true, apart := false, narrowed := true }
def FnExactSweepUptoSaid : Prop := fnExactSweepUptoRow.holds Try.pinned (OpenSpec.upto fnExactSweepSpec)

end Rows
end Go.Proofs.Ytmafdoloidlfeaa
