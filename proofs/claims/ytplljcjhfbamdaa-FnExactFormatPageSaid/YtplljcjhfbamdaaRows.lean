/-
  No cell of these rows narrows 'for every input' (looked for: loops, veiled, ifaces, maps, wideKeys, modest, calm, conditions, laid).
  DERIVED. THE GIVEN ROWS OF THIS SEAT. 6 by the template 'for every input the law returns true; each argument reads behind the call as it read before'; 0 by the template 'total and deterministic' (their statements: YtplljcjhfbamdaaTotals.lean).
  GIVEN WITH THE SEED: the statements are not yours to turn. If you find one false, say at which input.
  Laid BY PROGRAM, IN A SANDBOX (cutbox-rows.mjs): the forced cells as the released guide's own fill.sh prints them over the translation f857001e5515a789… (all of the seat's roots in one cut). By AI agents, Wed Nov 11 2026. No macro, syntax, notation, axiom, sorry.
-/
import Derived.Test.YtplljcjhfbamdaaChecked
import GoSem.Claim
import GoSem.ClaimJoined
import GoSem.ClaimMapViews
import Derived.JoinedTies
import Derived.KernelRfl
namespace Go.Proofs.Ytplljcjhfbamdaa
/- THE CELL 'sum', in the pinned program and in every row, IS THE sha256 OF THE DUMP (.gsa) THAT YtplljcjhfbamdaaProg.lean LOADS. Nothing in Lean hashes anything: it is a label: what it is worth is what the hold of that sum in a sandbox is worth. -/
noncomputable def Try.pinned : Pinned := { name := "ytplljcjhfbamdaa", sum := "f857001e5515a78994c507b2e415692869a8a1cf2914ddec19c8ef24f6c279fa", checked := Try.checked }
namespace Rows
def none {H : Type} : Left H := { results := [], args := [] }

/-- 'laws.FnExactIsHop': WHATEVER THE INPUT: true; the input reads as it did. -/
def fnExactIsHopSpec : ChangeSpec := { name := "fnExactIsHop", fn := fun _ => fun
  | [d] => { results := [.lit (.bool true)], args := [d] }
  | _ => none }
def fnExactIsHopRow : OpenClaim := { program := "ytplljcjhfbamdaa", sum := "f857001e5515a78994c507b2e415692869a8a1cf2914ddec19c8ef24f6c279fa", func := "loop.example/g03012/laws.FnExactIsHop", spec := "fnExactIsHop", apart := false }
def FnExactIsHopSaid : Prop := fnExactIsHopRow.holds Try.pinned (OpenSpec.ofChange fnExactIsHopSpec)

/-- ITS FALSE NEIGHBOUR: 'it returns false'. Refute it at one input. -/
def fnExactIsHopWrong : ChangeSpec := { name := "fnExactIsHop", fn := fun _ => fun
  | [d] => { results := [.lit (.bool false)], args := [d] }
  | _ => none }
def FnExactIsHopWrongFalsely : Prop := fnExactIsHopRow.holds Try.pinned (OpenSpec.ofChange fnExactIsHopWrong)

/-- 'laws.FnExactIsPurge': WHATEVER THE INPUT: true; the input reads as it did. -/
def fnExactIsPurgeSpec : ChangeSpec := { name := "fnExactIsPurge", fn := fun _ => fun
  | [d] => { results := [.lit (.bool true)], args := [d] }
  | _ => none }
def fnExactIsPurgeRow : OpenClaim := { program := "ytplljcjhfbamdaa", sum := "f857001e5515a78994c507b2e415692869a8a1cf2914ddec19c8ef24f6c279fa", func := "loop.example/g03012/laws.FnExactIsPurge", spec := "fnExactIsPurge", apart := false }
def FnExactIsPurgeSaid : Prop := fnExactIsPurgeRow.holds Try.pinned (OpenSpec.ofChange fnExactIsPurgeSpec)

/-- ITS FALSE NEIGHBOUR: 'it returns false'. Refute it at one input. -/
def fnExactIsPurgeWrong : ChangeSpec := { name := "fnExactIsPurge", fn := fun _ => fun
  | [d] => { results := [.lit (.bool false)], args := [d] }
  | _ => none }
def FnExactIsPurgeWrongFalsely : Prop := fnExactIsPurgeRow.holds Try.pinned (OpenSpec.ofChange fnExactIsPurgeWrong)

/-- 'laws.FnExactExcessOf': WHATEVER THE INPUT: true; the input reads as it did. -/
def fnExactExcessOfSpec : ChangeSpec := { name := "fnExactExcessOf", fn := fun _ => fun
  | [d] => { results := [.lit (.bool true)], args := [d] }
  | _ => none }
def fnExactExcessOfRow : OpenClaim := { program := "ytplljcjhfbamdaa", sum := "f857001e5515a78994c507b2e415692869a8a1cf2914ddec19c8ef24f6c279fa", func := "loop.example/g03012/laws.FnExactExcessOf", spec := "fnExactExcessOf", apart := false }
def FnExactExcessOfSaid : Prop := fnExactExcessOfRow.holds Try.pinned (OpenSpec.ofChange fnExactExcessOfSpec)

/-- ITS FALSE NEIGHBOUR: 'it returns false'. Refute it at one input. -/
def fnExactExcessOfWrong : ChangeSpec := { name := "fnExactExcessOf", fn := fun _ => fun
  | [d] => { results := [.lit (.bool false)], args := [d] }
  | _ => none }
def FnExactExcessOfWrongFalsely : Prop := fnExactExcessOfRow.holds Try.pinned (OpenSpec.ofChange fnExactExcessOfWrong)

/-- 'laws.FnExactIsSketch': WHATEVER THE INPUT: true; the input reads as it did. -/
def fnExactIsSketchSpec : ChangeSpec := { name := "fnExactIsSketch", fn := fun _ => fun
  | [d] => { results := [.lit (.bool true)], args := [d] }
  | _ => none }
def fnExactIsSketchRow : OpenClaim := { program := "ytplljcjhfbamdaa", sum := "f857001e5515a78994c507b2e415692869a8a1cf2914ddec19c8ef24f6c279fa", func := "loop.example/g03012/laws.FnExactIsSketch", spec := "fnExactIsSketch", apart := false }
def FnExactIsSketchSaid : Prop := fnExactIsSketchRow.holds Try.pinned (OpenSpec.ofChange fnExactIsSketchSpec)

/-- ITS FALSE NEIGHBOUR: 'it returns false'. Refute it at one input. -/
def fnExactIsSketchWrong : ChangeSpec := { name := "fnExactIsSketch", fn := fun _ => fun
  | [d] => { results := [.lit (.bool false)], args := [d] }
  | _ => none }
def FnExactIsSketchWrongFalsely : Prop := fnExactIsSketchRow.holds Try.pinned (OpenSpec.ofChange fnExactIsSketchWrong)

/-- 'laws.FnExactAreHops': WHATEVER THE INPUT: true; the input reads as it did. -/
def fnExactAreHopsSpec : ChangeSpec := { name := "fnExactAreHops", fn := fun _ => fun
  | [d] => { results := [.lit (.bool true)], args := [d] }
  | _ => none }
def fnExactAreHopsRow : OpenClaim := { program := "ytplljcjhfbamdaa", sum := "f857001e5515a78994c507b2e415692869a8a1cf2914ddec19c8ef24f6c279fa", func := "loop.example/g03012/laws.FnExactAreHops", spec := "fnExactAreHops", apart := false }
def FnExactAreHopsSaid : Prop := fnExactAreHopsRow.holds Try.pinned (OpenSpec.ofChange fnExactAreHopsSpec)

/-- ITS FALSE NEIGHBOUR: 'it returns false'. Refute it at one input. -/
def fnExactAreHopsWrong : ChangeSpec := { name := "fnExactAreHops", fn := fun _ => fun
  | [d] => { results := [.lit (.bool false)], args := [d] }
  | _ => none }
def FnExactAreHopsWrongFalsely : Prop := fnExactAreHopsRow.holds Try.pinned (OpenSpec.ofChange fnExactAreHopsWrong)

/-- 'laws.FnExactFormatPage': WHATEVER THE INPUT: true; the input reads as it did. -/
def fnExactFormatPageSpec : ChangeSpec := { name := "fnExactFormatPage", fn := fun _ => fun
  | [d] => { results := [.lit (.bool true)], args := [d] }
  | _ => none }
def fnExactFormatPageRow : OpenClaim := { program := "ytplljcjhfbamdaa", sum := "f857001e5515a78994c507b2e415692869a8a1cf2914ddec19c8ef24f6c279fa", func := "loop.example/g03012/laws.FnExactFormatPage", spec := "fnExactFormatPage", apart := false }
def FnExactFormatPageSaid : Prop := fnExactFormatPageRow.holds Try.pinned (OpenSpec.ofChange fnExactFormatPageSpec)

/-- ITS FALSE NEIGHBOUR: 'it returns false'. Refute it at one input. -/
def fnExactFormatPageWrong : ChangeSpec := { name := "fnExactFormatPage", fn := fun _ => fun
  | [d] => { results := [.lit (.bool false)], args := [d] }
  | _ => none }
def FnExactFormatPageWrongFalsely : Prop := fnExactFormatPageRow.holds Try.pinned (OpenSpec.ofChange fnExactFormatPageWrong)

/- THE SECOND FORM. 'bulk': how many values and letters a reading holds, each counted each time it is reached (what is shared counts as often as it is met; a slice's spare places count too). A statement '..UptoSaid' is the law's where the arguments, and the package variables that the reading takes, are together of bulk at most 1048576: NARROWER than '..Said'. Prove '..Said' where nothing that the law and all that it calls make is longer than what came in: it says more and counts as full. Else prove '..UptoSaid'. A law counts once. -/
mutual
def uptoBulk {H : Type} : DataW H → Nat
  | .lit (.string bytes) => bytes.length + 1
  | .lit _ => 1
  | .nil => 1
  | .ptr d => uptoBulk d + 1
  | .slice elems spare => uptoBulkAll elems + uptoBulkAll spare + 1
  | .agg parts => uptoBulkAll parts + 1
  | .iface _ d => uptoBulk d + 1
  | .map entries => uptoBulkEntries entries + 1
  | .held _ => 1
def uptoBulkAll {H : Type} : List (DataW H) → Nat
  | [] => 0
  | d :: r => uptoBulk d + uptoBulkAll r
def uptoBulkEntries {H : Type} : List (Lit × DataW H) → Nat
  | [] => 0
  | x :: r => uptoBulkEntry x + uptoBulkEntries r
def uptoBulkEntry {H : Type} : Lit × DataW H → Nat
  | (.string bytes, d) => bytes.length + uptoBulk d + 1
  | (_, d) => uptoBulk d + 1
 end
def uptoSmall : (H : Type) → List (DataW H) → Bool := fun _ ds => decide (uptoBulkAll ds ≤ 1048576)
def OpenSpec.upto (s : _root_.Go.ChangeSpec) : _root_.Go.OpenSpec := { _root_.Go.OpenSpec.ofChange s with cond := some uptoSmall }

/-- 'laws.FnExactIsHop', WHERE WHAT IT READS IS OF BULK AT MOST 1048576: true; the input reads as it did. -/
def fnExactIsHopUptoRow : OpenClaim := { program := "ytplljcjhfbamdaa", sum := "f857001e5515a78994c507b2e415692869a8a1cf2914ddec19c8ef24f6c279fa", func := "loop.example/g03012/laws.FnExactIsHop", spec := "fnExactIsHop", apart := false, narrowed := true }
def FnExactIsHopUptoSaid : Prop := fnExactIsHopUptoRow.holds Try.pinned (OpenSpec.upto fnExactIsHopSpec)

/-- 'laws.FnExactIsPurge', WHERE WHAT IT READS IS OF BULK AT MOST 1048576: true; the input reads as it did. -/
def fnExactIsPurgeUptoRow : OpenClaim := { program := "ytplljcjhfbamdaa", sum := "f857001e5515a78994c507b2e415692869a8a1cf2914ddec19c8ef24f6c279fa", func := "loop.example/g03012/laws.FnExactIsPurge", spec := "fnExactIsPurge", apart := false, narrowed := true }
def FnExactIsPurgeUptoSaid : Prop := fnExactIsPurgeUptoRow.holds Try.pinned (OpenSpec.upto fnExactIsPurgeSpec)

/-- 'laws.FnExactExcessOf', WHERE WHAT IT READS IS OF BULK AT MOST 1048576: true; the input reads as it did. -/
def fnExactExcessOfUptoRow : OpenClaim := { program := "ytplljcjhfbamdaa", sum := "f857001e5515a78994c507b2e415692869a8a1cf2914ddec19c8ef24f6c279fa", func := "loop.example/g03012/laws.FnExactExcessOf", spec := "fnExactExcessOf", apart := false, narrowed := true }
def FnExactExcessOfUptoSaid : Prop := fnExactExcessOfUptoRow.holds Try.pinned (OpenSpec.upto fnExactExcessOfSpec)

/-- 'laws.FnExactIsSketch', WHERE WHAT IT READS IS OF BULK AT MOST 1048576: true; the input reads as it did. -/
def fnExactIsSketchUptoRow : OpenClaim := { program := "ytplljcjhfbamdaa", sum := "f857001e5515a78994c507b2e415692869a8a1cf2914ddec19c8ef24f6c279fa", func := "loop.example/g03012/laws.FnExactIsSketch", spec := "fnExactIsSketch", apart := false, narrowed := true }
def FnExactIsSketchUptoSaid : Prop := fnExactIsSketchUptoRow.holds Try.pinned (OpenSpec.upto fnExactIsSketchSpec)

/-- 'laws.FnExactAreHops', WHERE WHAT IT READS IS OF BULK AT MOST 1048576: true; the input reads as it did. -/
def fnExactAreHopsUptoRow : OpenClaim := { program := "ytplljcjhfbamdaa", sum := "f857001e5515a78994c507b2e415692869a8a1cf2914ddec19c8ef24f6c279fa", func := "loop.example/g03012/laws.FnExactAreHops", spec := "fnExactAreHops", apart := false, narrowed := true }
def FnExactAreHopsUptoSaid : Prop := fnExactAreHopsUptoRow.holds Try.pinned (OpenSpec.upto fnExactAreHopsSpec)

/-- 'laws.FnExactFormatPage', WHERE WHAT IT READS IS OF BULK AT MOST 1048576: true; the input reads as it did. -/
def fnExactFormatPageUptoRow : OpenClaim := { program := "ytplljcjhfbamdaa", sum := "f857001e5515a78994c507b2e415692869a8a1cf2914ddec19c8ef24f6c279fa", func := "loop.example/g03012/laws.FnExactFormatPage", spec := "fnExactFormatPage", apart := false, narrowed := true }
def FnExactFormatPageUptoSaid : Prop := fnExactFormatPageUptoRow.holds Try.pinned (OpenSpec.upto fnExactFormatPageSpec)

end Rows
end Go.Proofs.Ytplljcjhfbamdaa
