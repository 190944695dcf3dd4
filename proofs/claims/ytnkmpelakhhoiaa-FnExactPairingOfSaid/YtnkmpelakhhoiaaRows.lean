/-
  No cell of these rows narrows 'for every input' (looked for: loops, veiled, ifaces, maps, wideKeys, modest, calm, conditions, laid).
  DERIVED. THE GIVEN ROWS OF THIS SEAT. 6 by the template 'for every input the law returns true; each argument reads behind the call as it read before'; 0 by the template 'total and deterministic' (their statements: YtnkmpelakhhoiaaTotals.lean).
  GIVEN WITH THE SEED: the statements are not yours to turn. If you find one false, say at which input.
  Laid BY PROGRAM, IN A SANDBOX (cutbox-rows.mjs): the forced cells as the released guide's own fill.sh prints them over the translation 47bb43ac97f5df82… (all of the seat's roots in one cut). By AI agents, Wed Nov 11 2026. No macro, syntax, notation, axiom, sorry.
-/
import Derived.Test.YtnkmpelakhhoiaaChecked
import GoSem.Claim
import GoSem.ClaimJoined
import GoSem.ClaimMapViews
import Derived.JoinedTies
import Derived.KernelRfl
namespace Go.Proofs.Ytnkmpelakhhoiaa
/- THE CELL 'sum', in the pinned program and in every row, IS THE sha256 OF THE DUMP (.gsa) THAT YtnkmpelakhhoiaaProg.lean LOADS. Nothing in Lean hashes anything: it is a label: what it is worth is what the hold of that sum in a sandbox is worth. -/
noncomputable def Try.pinned : Pinned := { name := "ytnkmpelakhhoiaa", sum := "47bb43ac97f5df826a7170dbe0c5a4b3a1e79962e40387e785db1d23c91700b5", checked := Try.checked }
namespace Rows
def none {H : Type} : Left H := { results := [], args := [] }

/-- 'laws.FnExactIsDesk': WHATEVER THE INPUT: true; the input reads as it did. -/
def fnExactIsDeskSpec : ChangeSpec := { name := "fnExactIsDesk", fn := fun _ => fun
  | [d] => { results := [.lit (.bool true)], args := [d] }
  | _ => none }
def fnExactIsDeskRow : OpenClaim := { program := "ytnkmpelakhhoiaa", sum := "47bb43ac97f5df826a7170dbe0c5a4b3a1e79962e40387e785db1d23c91700b5", func := "loop.example/g01230/laws.FnExactIsDesk", spec := "fnExactIsDesk", unfollowed := true, recurses := true, apart := false }
def FnExactIsDeskSaid : Prop := fnExactIsDeskRow.holds Try.pinned (OpenSpec.ofChange fnExactIsDeskSpec)

/-- ITS FALSE NEIGHBOUR: 'it returns false'. Refute it at one input. -/
def fnExactIsDeskWrong : ChangeSpec := { name := "fnExactIsDesk", fn := fun _ => fun
  | [d] => { results := [.lit (.bool false)], args := [d] }
  | _ => none }
def FnExactIsDeskWrongFalsely : Prop := fnExactIsDeskRow.holds Try.pinned (OpenSpec.ofChange fnExactIsDeskWrong)

/-- 'laws.FnExactOneOf': WHATEVER THE INPUT: true; the input reads as it did. -/
def fnExactOneOfSpec : ChangeSpec := { name := "fnExactOneOf", fn := fun _ => fun
  | [d] => { results := [.lit (.bool true)], args := [d] }
  | _ => none }
def fnExactOneOfRow : OpenClaim := { program := "ytnkmpelakhhoiaa", sum := "47bb43ac97f5df826a7170dbe0c5a4b3a1e79962e40387e785db1d23c91700b5", func := "loop.example/g01230/laws.FnExactOneOf", spec := "fnExactOneOf", unfollowed := true, recurses := true, apart := false }
def FnExactOneOfSaid : Prop := fnExactOneOfRow.holds Try.pinned (OpenSpec.ofChange fnExactOneOfSpec)

/-- ITS FALSE NEIGHBOUR: 'it returns false'. Refute it at one input. -/
def fnExactOneOfWrong : ChangeSpec := { name := "fnExactOneOf", fn := fun _ => fun
  | [d] => { results := [.lit (.bool false)], args := [d] }
  | _ => none }
def FnExactOneOfWrongFalsely : Prop := fnExactOneOfRow.holds Try.pinned (OpenSpec.ofChange fnExactOneOfWrong)

/-- 'laws.FnExactUnitPairing': WHATEVER THE INPUT: true; the input reads as it did. -/
def fnExactUnitPairingSpec : ChangeSpec := { name := "fnExactUnitPairing", fn := fun _ => fun
  | [d] => { results := [.lit (.bool true)], args := [d] }
  | _ => none }
def fnExactUnitPairingRow : OpenClaim := { program := "ytnkmpelakhhoiaa", sum := "47bb43ac97f5df826a7170dbe0c5a4b3a1e79962e40387e785db1d23c91700b5", func := "loop.example/g01230/laws.FnExactUnitPairing", spec := "fnExactUnitPairing", unfollowed := true, recurses := true, apart := false }
def FnExactUnitPairingSaid : Prop := fnExactUnitPairingRow.holds Try.pinned (OpenSpec.ofChange fnExactUnitPairingSpec)

/-- ITS FALSE NEIGHBOUR: 'it returns false'. Refute it at one input. -/
def fnExactUnitPairingWrong : ChangeSpec := { name := "fnExactUnitPairing", fn := fun _ => fun
  | [d] => { results := [.lit (.bool false)], args := [d] }
  | _ => none }
def FnExactUnitPairingWrongFalsely : Prop := fnExactUnitPairingRow.holds Try.pinned (OpenSpec.ofChange fnExactUnitPairingWrong)

/-- 'laws.FnExactIsNormedPairing': WHATEVER THE INPUT: true; the input reads as it did. -/
def fnExactIsNormedPairingSpec : ChangeSpec := { name := "fnExactIsNormedPairing", fn := fun _ => fun
  | [d1, d2] => { results := [.lit (.bool true)], args := [d1, d2] }
  | _ => none }
def fnExactIsNormedPairingRow : OpenClaim := { program := "ytnkmpelakhhoiaa", sum := "47bb43ac97f5df826a7170dbe0c5a4b3a1e79962e40387e785db1d23c91700b5", func := "loop.example/g01230/laws.FnExactIsNormedPairing", spec := "fnExactIsNormedPairing", unfollowed := true, recurses := true, apart := false }
def FnExactIsNormedPairingSaid : Prop := fnExactIsNormedPairingRow.holds Try.pinned (OpenSpec.ofChange fnExactIsNormedPairingSpec)

/-- ITS FALSE NEIGHBOUR: 'it returns false'. Refute it at one input. -/
def fnExactIsNormedPairingWrong : ChangeSpec := { name := "fnExactIsNormedPairing", fn := fun _ => fun
  | [d1, d2] => { results := [.lit (.bool false)], args := [d1, d2] }
  | _ => none }
def FnExactIsNormedPairingWrongFalsely : Prop := fnExactIsNormedPairingRow.holds Try.pinned (OpenSpec.ofChange fnExactIsNormedPairingWrong)

/-- 'laws.FnExactPairingOf': WHATEVER THE INPUT: true; the input reads as it did. -/
def fnExactPairingOfSpec : ChangeSpec := { name := "fnExactPairingOf", fn := fun _ => fun
  | [d1, d2, d3, d4] => { results := [.lit (.bool true)], args := [d1, d2, d3, d4] }
  | _ => none }
def fnExactPairingOfRow : OpenClaim := { program := "ytnkmpelakhhoiaa", sum := "47bb43ac97f5df826a7170dbe0c5a4b3a1e79962e40387e785db1d23c91700b5", func := "loop.example/g01230/laws.FnExactPairingOf", spec := "fnExactPairingOf", unfollowed := true, recurses := true, apart := false }
def FnExactPairingOfSaid : Prop := fnExactPairingOfRow.holds Try.pinned (OpenSpec.ofChange fnExactPairingOfSpec)

/-- ITS FALSE NEIGHBOUR: 'it returns false'. Refute it at one input. -/
def fnExactPairingOfWrong : ChangeSpec := { name := "fnExactPairingOf", fn := fun _ => fun
  | [d1, d2, d3, d4] => { results := [.lit (.bool false)], args := [d1, d2, d3, d4] }
  | _ => none }
def FnExactPairingOfWrongFalsely : Prop := fnExactPairingOfRow.holds Try.pinned (OpenSpec.ofChange fnExactPairingOfWrong)

/-- 'laws.FnExactAreInversePairings': WHATEVER THE INPUT: true; the input reads as it did. -/
def fnExactAreInversePairingsSpec : ChangeSpec := { name := "fnExactAreInversePairings", fn := fun _ => fun
  | [d1, d2, d3] => { results := [.lit (.bool true)], args := [d1, d2, d3] }
  | _ => none }
def fnExactAreInversePairingsRow : OpenClaim := { program := "ytnkmpelakhhoiaa", sum := "47bb43ac97f5df826a7170dbe0c5a4b3a1e79962e40387e785db1d23c91700b5", func := "loop.example/g01230/laws.FnExactAreInversePairings", spec := "fnExactAreInversePairings", unfollowed := true, recurses := true, apart := false }
def FnExactAreInversePairingsSaid : Prop := fnExactAreInversePairingsRow.holds Try.pinned (OpenSpec.ofChange fnExactAreInversePairingsSpec)

/-- ITS FALSE NEIGHBOUR: 'it returns false'. Refute it at one input. -/
def fnExactAreInversePairingsWrong : ChangeSpec := { name := "fnExactAreInversePairings", fn := fun _ => fun
  | [d1, d2, d3] => { results := [.lit (.bool false)], args := [d1, d2, d3] }
  | _ => none }
def FnExactAreInversePairingsWrongFalsely : Prop := fnExactAreInversePairingsRow.holds Try.pinned (OpenSpec.ofChange fnExactAreInversePairingsWrong)

/- THE SECOND FORM. 'bulk': how many values and letters a reading holds, each counted each time it is reached (what is shared counts as often as it is met; a slice's spare places count too). A statement '..UptoSaid' is the law's where the arguments, and the package variables that the reading takes, are together of bulk at most 1048576: NARROWER than '..Said'. Prove '..Said' where nothing that the law and all that it calls make is longer than what came in: it says more and counts as full. Else prove '..UptoSaid'. A law counts once. -/
mutual
def uptoBulk {H : Type} : DataW H → Nat
  | .lit (.string bytes) => bytes.length + 1
  | .lit _ => 1
  | .nil => 1
  | .ptr d => uptoBulk d + 1
  | .slice elems spare => uptoBulkAll elems + uptoBulkAll spare + 1
  | .agg parts => uptoBulkAll parts + 1
  | .iface _ d => uptoBulk d + 1
  | .map entries => uptoBulkEntries entries + 1
  | .held _ => 1
def uptoBulkAll {H : Type} : List (DataW H) → Nat
  | [] => 0
  | d :: r => uptoBulk d + uptoBulkAll r
def uptoBulkEntries {H : Type} : List (Lit × DataW H) → Nat
  | [] => 0
  | x :: r => uptoBulkEntry x + uptoBulkEntries r
def uptoBulkEntry {H : Type} : Lit × DataW H → Nat
  | (.string bytes, d) => bytes.length + uptoBulk d + 1
  | (_, d) => uptoBulk d + 1
 end
def uptoSmall : (H : Type) → List (DataW H) → Bool := fun _ ds => decide (uptoBulkAll ds ≤ 1048576)
def OpenSpec.upto (s : _root_.Go.ChangeSpec) : _root_.Go.OpenSpec := { _root_.Go.OpenSpec.ofChange s with cond := some uptoSmall }

/-- 'laws.FnExactIsDesk', WHERE WHAT IT READS IS OF BULK AT MOST 1048576: true; the input reads as it did. -/
def fnExactIsDeskUptoRow : OpenClaim := { program := "ytnkmpelakhhoiaa", sum := "47bb43ac97f5df826a7170dbe0c5a4b3a1e79962e40387e785db1d23c91700b5", func := "loop.example/g01230/laws.FnExactIsDesk", spec := "fnExactIsDesk", unfollowed := true, recurses := true, apart := false, narrowed := true }
def FnExactIsDeskUptoSaid : Prop := fnExactIsDeskUptoRow.holds Try.pinned (OpenSpec.upto fnExactIsDeskSpec)

/-- 'laws.FnExactOneOf', WHERE WHAT IT READS IS OF BULK AT MOST 1048576: true; the input reads as it did. -/
def fnExactOneOfUptoRow : OpenClaim := { program := "ytnkmpelakhhoiaa", sum := "47bb43ac97f5df826a7170dbe0c5a4b3a1e79962e40387e785db1d23c91700b5", func := "loop.example/g01230/laws.FnExactOneOf", spec := "fnExactOneOf", unfollowed := true, recurses := true, apart := false, narrowed := true }
def FnExactOneOfUptoSaid : Prop := fnExactOneOfUptoRow.holds Try.pinned (OpenSpec.upto fnExactOneOfSpec)

/-- 'laws.FnExactUnitPairing', WHERE WHAT IT READS IS OF BULK AT MOST 1048576: true; the input reads as it did. -/
def fnExactUnitPairingUptoRow : OpenClaim := { program := "ytnkmpelakhhoiaa", sum := "47bb43ac97f5df826a7170dbe0c5a4b3a1e79962e40387e785db1d23c91700b5", func := "loop.example/g01230/laws.FnExactUnitPairing", spec := "fnExactUnitPairing", unfollowed := true, recurses := true, apart := false, narrowed := true }
def FnExactUnitPairingUptoSaid : Prop := fnExactUnitPairingUptoRow.holds Try.pinned (OpenSpec.upto fnExactUnitPairingSpec)

/-- 'laws.FnExactIsNormedPairing', WHERE WHAT IT READS IS OF BULK AT MOST 1048576: true; the input reads as it did. -/
def fnExactIsNormedPairingUptoRow : OpenClaim := { program := "ytnkmpelakhhoiaa", sum := "47bb43ac97f5df826a7170dbe0c5a4b3a1e79962e40387e785db1d23c91700b5", func := "loop.example/g01230/laws.FnExactIsNormedPairing", spec := "fnExactIsNormedPairing", unfollowed := true, recurses := true, apart := false, narrowed := true }
def FnExactIsNormedPairingUptoSaid : Prop := fnExactIsNormedPairingUptoRow.holds Try.pinned (OpenSpec.upto fnExactIsNormedPairingSpec)

/-- 'laws.FnExactPairingOf', WHERE WHAT IT READS IS OF BULK AT MOST 1048576: true; the input reads as it did. -/
def fnExactPairingOfUptoRow : OpenClaim := { program := "ytnkmpelakhhoiaa", sum := "47bb43ac97f5df826a7170dbe0c5a4b3a1e79962e40387e785db1d23c91700b5", func := "loop.example/g01230/laws.FnExactPairingOf", spec := "fnExactPairingOf", unfollowed := true, recurses := true, apart := false, narrowed := true }
def FnExactPairingOfUptoSaid : Prop := fnExactPairingOfUptoRow.holds Try.pinned (OpenSpec.upto fnExactPairingOfSpec)

/-- 'laws.FnExactAreInversePairings', WHERE WHAT IT READS IS OF BULK AT MOST 1048576: true; the input reads as it did. -/
def fnExactAreInversePairingsUptoRow : OpenClaim := { program := "ytnkmpelakhhoiaa", sum := "47bb43ac97f5df826a7170dbe0c5a4b3a1e79962e40387e785db1d23c91700b5", func := "loop.example/g01230/laws.FnExactAreInversePairings", spec := "fnExactAreInversePairings", unfollowed := true, recurses := true, apart := false, narrowed := true }
def FnExactAreInversePairingsUptoSaid : Prop := fnExactAreInversePairingsUptoRow.holds Try.pinned (OpenSpec.upto fnExactAreInversePairingsSpec)

end Rows
end Go.Proofs.Ytnkmpelakhhoiaa
