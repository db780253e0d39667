/-
  No cell of these rows narrows 'for every input' (looked for: loops, veiled, ifaces, maps, wideKeys, modest, calm, conditions, laid).
  DERIVED. THE GIVEN ROWS OF THIS SEAT. 3 by the template 'for every input the law returns true; each argument reads behind the call as it read before'; 0 by the template 'total and deterministic' (their statements: YtdbmkfmenfcbiaaGreatTotals.lean).
  GIVEN WITH THE SEED: the statements are not yours to turn. If you find one false, say at which input.
  Laid BY PROGRAM, IN A SANDBOX (cutbox-rows.mjs): the forced cells as the released guide's own fill.sh prints them over the translation 4e4b40992741a886… (all of the seat's roots in one cut). By AI agents, Wed Nov 11 2026. No macro, syntax, notation, axiom, sorry.
-/
import Derived.Test.YtdbmkfmenfcbiaaGreatChecked
import GoSem.Claim
import GoSem.ClaimJoined
import GoSem.ClaimMapViews
import Derived.JoinedTies
import Derived.KernelRfl
namespace Go.Proofs.YtdbmkfmenfcbiaaGreat
/- THE CELL 'sum', in the pinned program and in every row, IS THE sha256 OF THE DUMP (.gsa) THAT YtdbmkfmenfcbiaaGreatProg.lean LOADS. Nothing in Lean hashes anything: it is a label: what it is worth is what the hold of that sum in a sandbox is worth. -/
noncomputable def Tryz.pinned : Pinned := { name := "ytdbmkfmenfcbiaagreat", sum := "4e4b40992741a886e44fd0c6125c6075e14daff79fe4701e8368cad2cbe35cca", checked := Tryz.checked }
namespace Rows
def none {H : Type} : Left H := { results := [], args := [] }

/-- 'laws.FnExactGains': WHATEVER THE INPUT: true; the input reads as it did. -/
def fnExactGainsSpec : ChangeSpec := { name := "fnExactGains", fn := fun _ => fun
  | [d] => { results := [.lit (.bool true)], args := [d] }
  | _ => none }
def fnExactGainsRow : OpenClaim := { program := "ytdbmkfmenfcbiaagreat", sum := "4e4b40992741a886e44fd0c6125c6075e14daff79fe4701e8368cad2cbe35cca", func := "loop.example/g00400/laws.FnExactGains", spec := "fnExactGains", inPlace := ["internal/reflectlite.ValueOf", "internal/reflectlite.Swapper", "(internal/reflectlite.Value).Len"], unfollowed := true, recurses := true, named := ["math/bits.divideError", "math/bits.overflowError"], apart := false }
def FnExactGainsSaid : Prop := fnExactGainsRow.holds Tryz.pinned (OpenSpec.ofChange fnExactGainsSpec)

/-- ITS FALSE NEIGHBOUR: 'it returns false'. Refute it at one input. -/
def fnExactGainsWrong : ChangeSpec := { name := "fnExactGains", fn := fun _ => fun
  | [d] => { results := [.lit (.bool false)], args := [d] }
  | _ => none }
def FnExactGainsWrongFalsely : Prop := fnExactGainsRow.holds Tryz.pinned (OpenSpec.ofChange fnExactGainsWrong)

/-- 'laws.FnGains': WHATEVER THE INPUT: true; the input reads as it did. -/
def fnGainsSpec : ChangeSpec := { name := "fnGains", fn := fun _ => fun
  | [d] => { results := [.lit (.bool true)], args := [d] }
  | _ => none }
def fnGainsRow : OpenClaim := { program := "ytdbmkfmenfcbiaagreat", sum := "4e4b40992741a886e44fd0c6125c6075e14daff79fe4701e8368cad2cbe35cca", func := "loop.example/g00400/laws.FnGains", spec := "fnGains", inPlace := ["internal/reflectlite.ValueOf", "internal/reflectlite.Swapper", "(internal/reflectlite.Value).Len"], unfollowed := true, recurses := true, named := ["math/bits.divideError", "math/bits.overflowError"], apart := false }
def FnGainsSaid : Prop := fnGainsRow.holds Tryz.pinned (OpenSpec.ofChange fnGainsSpec)

/-- ITS FALSE NEIGHBOUR: 'it returns false'. Refute it at one input. -/
def fnGainsWrong : ChangeSpec := { name := "fnGains", fn := fun _ => fun
  | [d] => { results := [.lit (.bool false)], args := [d] }
  | _ => none }
def FnGainsWrongFalsely : Prop := fnGainsRow.holds Tryz.pinned (OpenSpec.ofChange fnGainsWrong)

/-- 'laws.FnSwept': WHATEVER THE INPUT: true; the input reads as it did. -/
def fnSweptSpec : ChangeSpec := { name := "fnSwept", fn := fun _ => fun
  | [d] => { results := [.lit (.bool true)], args := [d] }
  | _ => none }
def fnSweptRow : OpenClaim := { program := "ytdbmkfmenfcbiaagreat", sum := "4e4b40992741a886e44fd0c6125c6075e14daff79fe4701e8368cad2cbe35cca", func := "loop.example/g00400/laws.FnSwept", spec := "fnSwept", unfollowed := true, recurses := true, named := ["math/bits.divideError", "math/bits.overflowError"], apart := false }
def FnSweptSaid : Prop := fnSweptRow.holds Tryz.pinned (OpenSpec.ofChange fnSweptSpec)

/-- ITS FALSE NEIGHBOUR: 'it returns false'. Refute it at one input. -/
def fnSweptWrong : ChangeSpec := { name := "fnSwept", fn := fun _ => fun
  | [d] => { results := [.lit (.bool false)], args := [d] }
  | _ => none }
def FnSweptWrongFalsely : Prop := fnSweptRow.holds Tryz.pinned (OpenSpec.ofChange fnSweptWrong)

/- THE SECOND FORM. 'bulk': how many values and letters a reading holds, each counted each time it is reached (what is shared counts as often as it is met; a slice's spare places count too). A statement '..UptoSaid' is the law's where the arguments, and the package variables that the reading takes, are together of bulk at most 1048576: NARROWER than '..Said'. Prove '..Said' where nothing that the law and all that it calls make is longer than what came in: it says more and counts as full. Else prove '..UptoSaid'. A law counts once. -/
mutual
def uptoBulk {H : Type} : DataW H → Nat
  | .lit (.string bytes) => bytes.length + 1
  | .lit _ => 1
  | .nil => 1
  | .ptr d => uptoBulk d + 1
  | .slice elems spare => uptoBulkAll elems + uptoBulkAll spare + 1
  | .agg parts => uptoBulkAll parts + 1
  | .iface _ d => uptoBulk d + 1
  | .map entries => uptoBulkEntries entries + 1
  | .held _ => 1
def uptoBulkAll {H : Type} : List (DataW H) → Nat
  | [] => 0
  | d :: r => uptoBulk d + uptoBulkAll r
def uptoBulkEntries {H : Type} : List (Lit × DataW H) → Nat
  | [] => 0
  | x :: r => uptoBulkEntry x + uptoBulkEntries r
def uptoBulkEntry {H : Type} : Lit × DataW H → Nat
  | (.string bytes, d) => bytes.length + uptoBulk d + 1
  | (_, d) => uptoBulk d + 1
 end
def uptoSmall : (H : Type) → List (DataW H) → Bool := fun _ ds => decide (uptoBulkAll ds ≤ 1048576)
def OpenSpec.upto (s : _root_.Go.ChangeSpec) : _root_.Go.OpenSpec := { _root_.Go.OpenSpec.ofChange s with cond := some uptoSmall }

/-- 'laws.FnExactGains', WHERE WHAT IT READS IS OF BULK AT MOST 1048576: true; the input reads as it did. -/
def fnExactGainsUptoRow : OpenClaim := { program := "ytdbmkfmenfcbiaagreat", sum := "4e4b40992741a886e44fd0c6125c6075e14daff79fe4701e8368cad2cbe35cca", func := "loop.example/g00400/laws.FnExactGains", spec := "fnExactGains", inPlace := ["internal/reflectlite.ValueOf", "internal/reflectlite.Swapper", "(internal/reflectlite.Value).Len"], unfollowed := true, recurses := true, named := ["math/bits.divideError", "math/bits.overflowError"], apart := false, narrowed := true }
def FnExactGainsUptoSaid : Prop := fnExactGainsUptoRow.holds Tryz.pinned (OpenSpec.upto fnExactGainsSpec)

/-- 'laws.FnGains', WHERE WHAT IT READS IS OF BULK AT MOST 1048576: true; the input reads as it did. -/
def fnGainsUptoRow : OpenClaim := { program := "ytdbmkfmenfcbiaagreat", sum := "4e4b40992741a886e44fd0c6125c6075e14daff79fe4701e8368cad2cbe35cca", func := "loop.example/g00400/laws.FnGains", spec := "fnGains", inPlace := ["internal/reflectlite.ValueOf", "internal/reflectlite.Swapper", "(internal/reflectlite.Value).Len"], unfollowed := true, recurses := true, named := ["math/bits.divideError", "math/bits.overflowError"], apart := false, narrowed := true }
def FnGainsUptoSaid : Prop := fnGainsUptoRow.holds Tryz.pinned (OpenSpec.upto fnGainsSpec)

/-- 'laws.FnSwept', WHERE WHAT IT READS IS OF BULK AT MOST 1048576: true; the input reads as it did. -/
def fnSweptUptoRow : OpenClaim := { program := "ytdbmkfmenfcbiaagreat", sum := "4e4b40992741a886e44fd0c6125c6075e14daff79fe4701e8368cad2cbe35cca", func := "loop.example/g00400/laws.FnSwept", spec := "fnSwept", unfollowed := true, recurses := true, named := ["math/bits.divideError", "math/bits.overflowError"], apart := false, narrowed := true }
def FnSweptUptoSaid : Prop := fnSweptUptoRow.holds Tryz.pinned (OpenSpec.upto fnSweptSpec)

end Rows
end Go.Proofs.YtdbmkfmenfcbiaaGreat
