/-
  No cell of these rows narrows 'for every input' (looked for: loops, veiled, ifaces, maps, wideKeys, modest, calm, conditions, laid).
  DERIVED. THE GIVEN ROWS OF THIS SEAT. 7 by the template 'for every input the law returns true; each argument reads behind the call as it read before'; 0 by the template 'total and deterministic' (their statements: YtplchgkppkibnaaTotals.lean).
  GIVEN WITH THE SEED: the statements are not yours to turn. If you find one false, say at which input.
  Laid BY PROGRAM, IN A SANDBOX (cutbox-rows.mjs): the forced cells as the released guide's own fill.sh prints them over the translation 6f639d0c61e0cbcf… (all of the seat's roots in one cut). By AI agents, Wed Nov 11 2026. No macro, syntax, notation, axiom, sorry.
-/
import Derived.Test.YtplchgkppkibnaaChecked
import GoSem.Claim
import GoSem.ClaimJoined
import GoSem.ClaimMapViews
import Derived.JoinedTies
import Derived.KernelRfl
namespace Go.Proofs.Ytplchgkppkibnaa
/- THE CELL 'sum', in the pinned program and in every row, IS THE sha256 OF THE DUMP (.gsa) THAT YtplchgkppkibnaaProg.lean LOADS. Nothing in Lean hashes anything: it is a label: what it is worth is what the hold of that sum in a sandbox is worth. -/
noncomputable def Try.pinned : Pinned := { name := "ytplchgkppkibnaa", sum := "6f639d0c61e0cbcf8b7388fc593038c50278af22e30d0d5d35430c222d6c45c9", checked := Try.checked }
namespace Rows
def none {H : Type} : Left H := { results := [], args := [] }

/-- 'laws.FnBucket': WHATEVER THE INPUT: true; the input reads as it did. -/
def fnBucketSpec : ChangeSpec := { name := "fnBucket", fn := fun _ => fun
  | [d] => { results := [.lit (.bool true)], args := [d] }
  | _ => none }
def fnBucketRow : OpenClaim := { program := "ytplchgkppkibnaa", sum := "6f639d0c61e0cbcf8b7388fc593038c50278af22e30d0d5d35430c222d6c45c9", func := "loop.example/g00400/laws.FnBucket", spec := "fnBucket", named := ["math/bits.divideError", "math/bits.overflowError"], apart := false }
def FnBucketSaid : Prop := fnBucketRow.holds Try.pinned (OpenSpec.ofChange fnBucketSpec)

/-- ITS FALSE NEIGHBOUR: 'it returns false'. Refute it at one input. -/
def fnBucketWrong : ChangeSpec := { name := "fnBucket", fn := fun _ => fun
  | [d] => { results := [.lit (.bool false)], args := [d] }
  | _ => none }
def FnBucketWrongFalsely : Prop := fnBucketRow.holds Try.pinned (OpenSpec.ofChange fnBucketWrong)

/-- 'laws.FnExactAccPast': WHATEVER THE INPUT: true; the input reads as it did. -/
def fnExactAccPastSpec : ChangeSpec := { name := "fnExactAccPast", fn := fun _ => fun
  | [d1, d2] => { results := [.lit (.bool true)], args := [d1, d2] }
  | _ => none }
def fnExactAccPastRow : OpenClaim := { program := "ytplchgkppkibnaa", sum := "6f639d0c61e0cbcf8b7388fc593038c50278af22e30d0d5d35430c222d6c45c9", func := "loop.example/g00400/laws.FnExactAccPast", spec := "fnExactAccPast", apart := false }
def FnExactAccPastSaid : Prop := fnExactAccPastRow.holds Try.pinned (OpenSpec.ofChange fnExactAccPastSpec)

/-- ITS FALSE NEIGHBOUR: 'it returns false'. Refute it at one input. -/
def fnExactAccPastWrong : ChangeSpec := { name := "fnExactAccPast", fn := fun _ => fun
  | [d1, d2] => { results := [.lit (.bool false)], args := [d1, d2] }
  | _ => none }
def FnExactAccPastWrongFalsely : Prop := fnExactAccPastRow.holds Try.pinned (OpenSpec.ofChange fnExactAccPastWrong)

/-- 'laws.FnSides': WHATEVER THE INPUT: true; the input reads as it did. -/
def fnSidesSpec : ChangeSpec := { name := "fnSides", fn := fun _ => fun
  | [d] => { results := [.lit (.bool true)], args := [d] }
  | _ => none }
def fnSidesRow : OpenClaim := { program := "ytplchgkppkibnaa", sum := "6f639d0c61e0cbcf8b7388fc593038c50278af22e30d0d5d35430c222d6c45c9", func := "loop.example/g00400/laws.FnSides", spec := "fnSides", apart := false }
def FnSidesSaid : Prop := fnSidesRow.holds Try.pinned (OpenSpec.ofChange fnSidesSpec)

/-- ITS FALSE NEIGHBOUR: 'it returns false'. Refute it at one input. -/
def fnSidesWrong : ChangeSpec := { name := "fnSides", fn := fun _ => fun
  | [d] => { results := [.lit (.bool false)], args := [d] }
  | _ => none }
def FnSidesWrongFalsely : Prop := fnSidesRow.holds Try.pinned (OpenSpec.ofChange fnSidesWrong)

/-- 'laws.FnTake2': WHATEVER THE INPUT: true; the input reads as it did. -/
def fnTake2Spec : ChangeSpec := { name := "fnTake2", fn := fun _ => fun
  | [d] => { results := [.lit (.bool true)], args := [d] }
  | _ => none }
def fnTake2Row : OpenClaim := { program := "ytplchgkppkibnaa", sum := "6f639d0c61e0cbcf8b7388fc593038c50278af22e30d0d5d35430c222d6c45c9", func := "loop.example/g00400/laws.FnTake2", spec := "fnTake2", named := ["math/bits.divideError", "math/bits.overflowError"], apart := false }
def FnTake2Said : Prop := fnTake2Row.holds Try.pinned (OpenSpec.ofChange fnTake2Spec)

/-- ITS FALSE NEIGHBOUR: 'it returns false'. Refute it at one input. -/
def fnTake2Wrong : ChangeSpec := { name := "fnTake2", fn := fun _ => fun
  | [d] => { results := [.lit (.bool false)], args := [d] }
  | _ => none }
def FnTake2WrongFalsely : Prop := fnTake2Row.holds Try.pinned (OpenSpec.ofChange fnTake2Wrong)

/-- 'laws.FnPurse': WHATEVER THE INPUT: true; the input reads as it did. -/
def fnPurseSpec : ChangeSpec := { name := "fnPurse", fn := fun _ => fun
  | [d] => { results := [.lit (.bool true)], args := [d] }
  | _ => none }
def fnPurseRow : OpenClaim := { program := "ytplchgkppkibnaa", sum := "6f639d0c61e0cbcf8b7388fc593038c50278af22e30d0d5d35430c222d6c45c9", func := "loop.example/g00400/laws.FnPurse", spec := "fnPurse", apart := false }
def FnPurseSaid : Prop := fnPurseRow.holds Try.pinned (OpenSpec.ofChange fnPurseSpec)

/-- ITS FALSE NEIGHBOUR: 'it returns false'. Refute it at one input. -/
def fnPurseWrong : ChangeSpec := { name := "fnPurse", fn := fun _ => fun
  | [d] => { results := [.lit (.bool false)], args := [d] }
  | _ => none }
def FnPurseWrongFalsely : Prop := fnPurseRow.holds Try.pinned (OpenSpec.ofChange fnPurseWrong)

/-- 'laws.FnReverse': WHATEVER THE INPUT: true; the input reads as it did. -/
def fnReverseSpec : ChangeSpec := { name := "fnReverse", fn := fun _ => fun
  | [d] => { results := [.lit (.bool true)], args := [d] }
  | _ => none }
def fnReverseRow : OpenClaim := { program := "ytplchgkppkibnaa", sum := "6f639d0c61e0cbcf8b7388fc593038c50278af22e30d0d5d35430c222d6c45c9", func := "loop.example/g00400/laws.FnReverse", spec := "fnReverse", apart := false }
def FnReverseSaid : Prop := fnReverseRow.holds Try.pinned (OpenSpec.ofChange fnReverseSpec)

/-- ITS FALSE NEIGHBOUR: 'it returns false'. Refute it at one input. -/
def fnReverseWrong : ChangeSpec := { name := "fnReverse", fn := fun _ => fun
  | [d] => { results := [.lit (.bool false)], args := [d] }
  | _ => none }
def FnReverseWrongFalsely : Prop := fnReverseRow.holds Try.pinned (OpenSpec.ofChange fnReverseWrong)

/-- 'laws.FnAccPast': WHATEVER THE INPUT: true; the input reads as it did. -/
def fnAccPastSpec : ChangeSpec := { name := "fnAccPast", fn := fun _ => fun
  | [d] => { results := [.lit (.bool true)], args := [d] }
  | _ => none }
def fnAccPastRow : OpenClaim := { program := "ytplchgkppkibnaa", sum := "6f639d0c61e0cbcf8b7388fc593038c50278af22e30d0d5d35430c222d6c45c9", func := "loop.example/g00400/laws.FnAccPast", spec := "fnAccPast", apart := false }
def FnAccPastSaid : Prop := fnAccPastRow.holds Try.pinned (OpenSpec.ofChange fnAccPastSpec)

/-- ITS FALSE NEIGHBOUR: 'it returns false'. Refute it at one input. -/
def fnAccPastWrong : ChangeSpec := { name := "fnAccPast", fn := fun _ => fun
  | [d] => { results := [.lit (.bool false)], args := [d] }
  | _ => none }
def FnAccPastWrongFalsely : Prop := fnAccPastRow.holds Try.pinned (OpenSpec.ofChange fnAccPastWrong)

/- THE SECOND FORM. 'bulk': how many values and letters a reading holds, each counted each time it is reached (what is shared counts as often as it is met; a slice's spare places count too). A statement '..UptoSaid' is the law's where the arguments, and the package variables that the reading takes, are together of bulk at most 1048576: NARROWER than '..Said'. Prove '..Said' where nothing that the law and all that it calls make is longer than what came in: it says more and counts as full. Else prove '..UptoSaid'. A law counts once. -/
mutual
def uptoBulk {H : Type} : DataW H → Nat
  | .lit (.string bytes) => bytes.length + 1
  | .lit _ => 1
  | .nil => 1
  | .ptr d => uptoBulk d + 1
  | .slice elems spare => uptoBulkAll elems + uptoBulkAll spare + 1
  | .agg parts => uptoBulkAll parts + 1
  | .iface _ d => uptoBulk d + 1
  | .map entries => uptoBulkEntries entries + 1
  | .held _ => 1
def uptoBulkAll {H : Type} : List (DataW H) → Nat
  | [] => 0
  | d :: r => uptoBulk d + uptoBulkAll r
def uptoBulkEntries {H : Type} : List (Lit × DataW H) → Nat
  | [] => 0
  | x :: r => uptoBulkEntry x + uptoBulkEntries r
def uptoBulkEntry {H : Type} : Lit × DataW H → Nat
  | (.string bytes, d) => bytes.length + uptoBulk d + 1
  | (_, d) => uptoBulk d + 1
 end
def uptoSmall : (H : Type) → List (DataW H) → Bool := fun _ ds => decide (uptoBulkAll ds ≤ 1048576)
def OpenSpec.upto (s : _root_.Go.ChangeSpec) : _root_.Go.OpenSpec := { _root_.Go.OpenSpec.ofChange s with cond := some uptoSmall }

/-- 'laws.FnBucket', WHERE WHAT IT READS IS OF BULK AT MOST 1048576: true; the input reads as it did. -/
def fnBucketUptoRow : OpenClaim := { program := "ytplchgkppkibnaa", sum := "6f639d0c61e0cbcf8b7388fc593038c50278af22e30d0d5d35430c222d6c45c9", func := "loop.example/g00400/laws.FnBucket", spec := "fnBucket", named := ["math/bits.divideError", "math/bits.overflowError"], apart := false, narrowed := true }
def FnBucketUptoSaid : Prop := fnBucketUptoRow.holds Try.pinned (OpenSpec.upto fnBucketSpec)

/-- 'laws.FnExactAccPast', WHERE WHAT IT READS IS OF BULK AT MOST 1048576: true; the input reads as it did. -/
def fnExactAccPastUptoRow : OpenClaim := { program := "ytplchgkppkibnaa", sum := "6f639d0c61e0cbcf8b7388fc593038c50278af22e30d0d5d35430c222d6c45c9", func := "loop.example/g00400/laws.FnExactAccPast", spec := "fnExactAccPast", apart := false, narrowed := true }
def FnExactAccPastUptoSaid : Prop := fnExactAccPastUptoRow.holds Try.pinned (OpenSpec.upto fnExactAccPastSpec)

/-- 'laws.FnSides', WHERE WHAT IT READS IS OF BULK AT MOST 1048576: true; the input reads as it did. -/
def fnSidesUptoRow : OpenClaim := { program := "ytplchgkppkibnaa", sum := "6f639d0c61e0cbcf8b7388fc593038c50278af22e30d0d5d35430c222d6c45c9", func := "loop.example/g00400/laws.FnSides", spec := "fnSides", apart := false, narrowed := true }
def FnSidesUptoSaid : Prop := fnSidesUptoRow.holds Try.pinned (OpenSpec.upto fnSidesSpec)

/-- 'laws.FnTake2', WHERE WHAT IT READS IS OF BULK AT MOST 1048576: true; the input reads as it did. -/
def fnTake2UptoRow : OpenClaim := { program := "ytplchgkppkibnaa", sum := "6f639d0c61e0cbcf8b7388fc593038c50278af22e30d0d5d35430c222d6c45c9", func := "loop.example/g00400/laws.FnTake2", spec := "fnTake2", named := ["math/bits.divideError", "math/bits.overflowError"], apart := false, narrowed := true }
def FnTake2UptoSaid : Prop := fnTake2UptoRow.holds Try.pinned (OpenSpec.upto fnTake2Spec)

/-- 'laws.FnPurse', WHERE WHAT IT READS IS OF BULK AT MOST 1048576: true; the input reads as it did. -/
def fnPurseUptoRow : OpenClaim := { program := "ytplchgkppkibnaa", sum := "6f639d0c61e0cbcf8b7388fc593038c50278af22e30d0d5d35430c222d6c45c9", func := "loop.example/g00400/laws.FnPurse", spec := "fnPurse", apart := false, narrowed := true }
def FnPurseUptoSaid : Prop := fnPurseUptoRow.holds Try.pinned (OpenSpec.upto fnPurseSpec)

/-- 'laws.FnReverse', WHERE WHAT IT READS IS OF BULK AT MOST 1048576: true; the input reads as it did. -/
def fnReverseUptoRow : OpenClaim := { program := "ytplchgkppkibnaa", sum := "6f639d0c61e0cbcf8b7388fc593038c50278af22e30d0d5d35430c222d6c45c9", func := "loop.example/g00400/laws.FnReverse", spec := "fnReverse", apart := false, narrowed := true }
def FnReverseUptoSaid : Prop := fnReverseUptoRow.holds Try.pinned (OpenSpec.upto fnReverseSpec)

/-- 'laws.FnAccPast', WHERE WHAT IT READS IS OF BULK AT MOST 1048576: true; the input reads as it did. -/
def fnAccPastUptoRow : OpenClaim := { program := "ytplchgkppkibnaa", sum := "6f639d0c61e0cbcf8b7388fc593038c50278af22e30d0d5d35430c222d6c45c9", func := "loop.example/g00400/laws.FnAccPast", spec := "fnAccPast", apart := false, narrowed := true }
def FnAccPastUptoSaid : Prop := fnAccPastUptoRow.holds Try.pinned (OpenSpec.upto fnAccPastSpec)

end Rows
end Go.Proofs.Ytplchgkppkibnaa
