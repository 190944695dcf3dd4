/-
  No cell of these rows narrows 'for every input' (looked for: loops, veiled, ifaces, maps, wideKeys, modest, calm, conditions, laid).
  DERIVED. THE GIVEN ROWS OF THIS SEAT. 6 by the template 'for every input the law returns true; each argument reads behind the call as it read before'; 0 by the template 'total and deterministic' (their statements: YtnkmpelakhhoiabTotals.lean).
  GIVEN WITH THE SEED: the statements are not yours to turn. If you find one false, say at which input.
  Laid BY PROGRAM, IN A SANDBOX (cutbox-rows.mjs): the forced cells as the released guide's own fill.sh prints them over the translation dd856c60940909a4… (all of the seat's roots in one cut). By AI agents, Wed Nov 11 2026. No macro, syntax, notation, axiom, sorry.
-/
import Derived.Test.YtnkmpelakhhoiabChecked
import GoSem.Claim
import GoSem.ClaimJoined
import GoSem.ClaimMapViews
import Derived.JoinedTies
import Derived.KernelRfl
namespace Go.Proofs.Ytnkmpelakhhoiab
/- THE CELL 'sum', in the pinned program and in every row, IS THE sha256 OF THE DUMP (.gsa) THAT YtnkmpelakhhoiabProg.lean LOADS. Nothing in Lean hashes anything: it is a label: what it is worth is what the hold of that sum in a sandbox is worth. -/
noncomputable def Try.pinned : Pinned := { name := "ytnkmpelakhhoiab", sum := "dd856c60940909a4e3946d42755dba343ab2375fb00c650bd42cb3ab48c48cd4", checked := Try.checked }
namespace Rows
def none {H : Type} : Left H := { results := [], args := [] }

/-- 'laws.FnExactConvolvePairings': WHATEVER THE INPUT: true; the input reads as it did. -/
def fnExactConvolvePairingsSpec : ChangeSpec := { name := "fnExactConvolvePairings", fn := fun _ => fun
  | [d1, d2, d3] => { results := [.lit (.bool true)], args := [d1, d2, d3] }
  | _ => none }
def fnExactConvolvePairingsRow : OpenClaim := { program := "ytnkmpelakhhoiab", sum := "dd856c60940909a4e3946d42755dba343ab2375fb00c650bd42cb3ab48c48cd4", func := "loop.example/g01230/laws.FnExactConvolvePairings", spec := "fnExactConvolvePairings", unfollowed := true, recurses := true, apart := false }
def FnExactConvolvePairingsSaid : Prop := fnExactConvolvePairingsRow.holds Try.pinned (OpenSpec.ofChange fnExactConvolvePairingsSpec)

/-- ITS FALSE NEIGHBOUR: 'it returns false'. Refute it at one input. -/
def fnExactConvolvePairingsWrong : ChangeSpec := { name := "fnExactConvolvePairings", fn := fun _ => fun
  | [d1, d2, d3] => { results := [.lit (.bool false)], args := [d1, d2, d3] }
  | _ => none }
def FnExactConvolvePairingsWrongFalsely : Prop := fnExactConvolvePairingsRow.holds Try.pinned (OpenSpec.ofChange fnExactConvolvePairingsWrong)

/-- 'laws.FnExactIsBicharacter': WHATEVER THE INPUT: true; the input reads as it did. -/
def fnExactIsBicharacterSpec : ChangeSpec := { name := "fnExactIsBicharacter", fn := fun _ => fun
  | [d1, d2] => { results := [.lit (.bool true)], args := [d1, d2] }
  | _ => none }
def fnExactIsBicharacterRow : OpenClaim := { program := "ytnkmpelakhhoiab", sum := "dd856c60940909a4e3946d42755dba343ab2375fb00c650bd42cb3ab48c48cd4", func := "loop.example/g01230/laws.FnExactIsBicharacter", spec := "fnExactIsBicharacter", unfollowed := true, recurses := true, apart := false }
def FnExactIsBicharacterSaid : Prop := fnExactIsBicharacterRow.holds Try.pinned (OpenSpec.ofChange fnExactIsBicharacterSpec)

/-- ITS FALSE NEIGHBOUR: 'it returns false'. Refute it at one input. -/
def fnExactIsBicharacterWrong : ChangeSpec := { name := "fnExactIsBicharacter", fn := fun _ => fun
  | [d1, d2] => { results := [.lit (.bool false)], args := [d1, d2] }
  | _ => none }
def FnExactIsBicharacterWrongFalsely : Prop := fnExactIsBicharacterRow.holds Try.pinned (OpenSpec.ofChange fnExactIsBicharacterWrong)

/-- 'laws.FnExactIsCocycle': WHATEVER THE INPUT: true; the input reads as it did. -/
def fnExactIsCocycleSpec : ChangeSpec := { name := "fnExactIsCocycle", fn := fun _ => fun
  | [d1, d2] => { results := [.lit (.bool true)], args := [d1, d2] }
  | _ => none }
def fnExactIsCocycleRow : OpenClaim := { program := "ytnkmpelakhhoiab", sum := "dd856c60940909a4e3946d42755dba343ab2375fb00c650bd42cb3ab48c48cd4", func := "loop.example/g01230/laws.FnExactIsCocycle", spec := "fnExactIsCocycle", unfollowed := true, recurses := true, apart := false }
def FnExactIsCocycleSaid : Prop := fnExactIsCocycleRow.holds Try.pinned (OpenSpec.ofChange fnExactIsCocycleSpec)

/-- ITS FALSE NEIGHBOUR: 'it returns false'. Refute it at one input. -/
def fnExactIsCocycleWrong : ChangeSpec := { name := "fnExactIsCocycle", fn := fun _ => fun
  | [d1, d2] => { results := [.lit (.bool false)], args := [d1, d2] }
  | _ => none }
def FnExactIsCocycleWrongFalsely : Prop := fnExactIsCocycleRow.holds Try.pinned (OpenSpec.ofChange fnExactIsCocycleWrong)

/-- 'laws.FnExactMultiplyMatrices': WHATEVER THE INPUT: true; the input reads as it did. -/
def fnExactMultiplyMatricesSpec : ChangeSpec := { name := "fnExactMultiplyMatrices", fn := fun _ => fun
  | [d1, d2, d3] => { results := [.lit (.bool true)], args := [d1, d2, d3] }
  | _ => none }
def fnExactMultiplyMatricesRow : OpenClaim := { program := "ytnkmpelakhhoiab", sum := "dd856c60940909a4e3946d42755dba343ab2375fb00c650bd42cb3ab48c48cd4", func := "loop.example/g01230/laws.FnExactMultiplyMatrices", spec := "fnExactMultiplyMatrices", unfollowed := true, recurses := true, apart := false }
def FnExactMultiplyMatricesSaid : Prop := fnExactMultiplyMatricesRow.holds Try.pinned (OpenSpec.ofChange fnExactMultiplyMatricesSpec)

/-- ITS FALSE NEIGHBOUR: 'it returns false'. Refute it at one input. -/
def fnExactMultiplyMatricesWrong : ChangeSpec := { name := "fnExactMultiplyMatrices", fn := fun _ => fun
  | [d1, d2, d3] => { results := [.lit (.bool false)], args := [d1, d2, d3] }
  | _ => none }
def FnExactMultiplyMatricesWrongFalsely : Prop := fnExactMultiplyMatricesRow.holds Try.pinned (OpenSpec.ofChange fnExactMultiplyMatricesWrong)

/-- 'laws.FnExactFlipMatrix': WHATEVER THE INPUT: true; the input reads as it did. -/
def fnExactFlipMatrixSpec : ChangeSpec := { name := "fnExactFlipMatrix", fn := fun _ => fun
  | [d1, d2] => { results := [.lit (.bool true)], args := [d1, d2] }
  | _ => none }
def fnExactFlipMatrixRow : OpenClaim := { program := "ytnkmpelakhhoiab", sum := "dd856c60940909a4e3946d42755dba343ab2375fb00c650bd42cb3ab48c48cd4", func := "loop.example/g01230/laws.FnExactFlipMatrix", spec := "fnExactFlipMatrix", unfollowed := true, recurses := true, apart := false }
def FnExactFlipMatrixSaid : Prop := fnExactFlipMatrixRow.holds Try.pinned (OpenSpec.ofChange fnExactFlipMatrixSpec)

/-- ITS FALSE NEIGHBOUR: 'it returns false'. Refute it at one input. -/
def fnExactFlipMatrixWrong : ChangeSpec := { name := "fnExactFlipMatrix", fn := fun _ => fun
  | [d1, d2] => { results := [.lit (.bool false)], args := [d1, d2] }
  | _ => none }
def FnExactFlipMatrixWrongFalsely : Prop := fnExactFlipMatrixRow.holds Try.pinned (OpenSpec.ofChange fnExactFlipMatrixWrong)

/-- 'laws.FnExactFirstPartCoproduct': WHATEVER THE INPUT: true; the input reads as it did. -/
def fnExactFirstPartCoproductSpec : ChangeSpec := { name := "fnExactFirstPartCoproduct", fn := fun _ => fun
  | [d1, d2] => { results := [.lit (.bool true)], args := [d1, d2] }
  | _ => none }
def fnExactFirstPartCoproductRow : OpenClaim := { program := "ytnkmpelakhhoiab", sum := "dd856c60940909a4e3946d42755dba343ab2375fb00c650bd42cb3ab48c48cd4", func := "loop.example/g01230/laws.FnExactFirstPartCoproduct", spec := "fnExactFirstPartCoproduct", unfollowed := true, recurses := true, apart := false }
def FnExactFirstPartCoproductSaid : Prop := fnExactFirstPartCoproductRow.holds Try.pinned (OpenSpec.ofChange fnExactFirstPartCoproductSpec)

/-- ITS FALSE NEIGHBOUR: 'it returns false'. Refute it at one input. -/
def fnExactFirstPartCoproductWrong : ChangeSpec := { name := "fnExactFirstPartCoproduct", fn := fun _ => fun
  | [d1, d2] => { results := [.lit (.bool false)], args := [d1, d2] }
  | _ => none }
def FnExactFirstPartCoproductWrongFalsely : Prop := fnExactFirstPartCoproductRow.holds Try.pinned (OpenSpec.ofChange fnExactFirstPartCoproductWrong)

/- THE SECOND FORM. 'bulk': how many values and letters a reading holds, each counted each time it is reached (what is shared counts as often as it is met; a slice's spare places count too). A statement '..UptoSaid' is the law's where the arguments, and the package variables that the reading takes, are together of bulk at most 1048576: NARROWER than '..Said'. Prove '..Said' where nothing that the law and all that it calls make is longer than what came in: it says more and counts as full. Else prove '..UptoSaid'. A law counts once. -/
mutual
def uptoBulk {H : Type} : DataW H → Nat
  | .lit (.string bytes) => bytes.length + 1
  | .lit _ => 1
  | .nil => 1
  | .ptr d => uptoBulk d + 1
  | .slice elems spare => uptoBulkAll elems + uptoBulkAll spare + 1
  | .agg parts => uptoBulkAll parts + 1
  | .iface _ d => uptoBulk d + 1
  | .map entries => uptoBulkEntries entries + 1
  | .held _ => 1
def uptoBulkAll {H : Type} : List (DataW H) → Nat
  | [] => 0
  | d :: r => uptoBulk d + uptoBulkAll r
def uptoBulkEntries {H : Type} : List (Lit × DataW H) → Nat
  | [] => 0
  | x :: r => uptoBulkEntry x + uptoBulkEntries r
def uptoBulkEntry {H : Type} : Lit × DataW H → Nat
  | (.string bytes, d) => bytes.length + uptoBulk d + 1
  | (_, d) => uptoBulk d + 1
 end
def uptoSmall : (H : Type) → List (DataW H) → Bool := fun _ ds => decide (uptoBulkAll ds ≤ 1048576)
def OpenSpec.upto (s : _root_.Go.ChangeSpec) : _root_.Go.OpenSpec := { _root_.Go.OpenSpec.ofChange s with cond := some uptoSmall }

/-- 'laws.FnExactConvolvePairings', WHERE WHAT IT READS IS OF BULK AT MOST 1048576: true; the input reads as it did. -/
def fnExactConvolvePairingsUptoRow : OpenClaim := { program := "ytnkmpelakhhoiab", sum := "dd856c60940909a4e3946d42755dba343ab2375fb00c650bd42cb3ab48c48cd4", func := "loop.example/g01230/laws.FnExactConvolvePairings", spec := "fnExactConvolvePairings", unfollowed := true, recurses := true, apart := false, narrowed := true }
def FnExactConvolvePairingsUptoSaid : Prop := fnExactConvolvePairingsUptoRow.holds Try.pinned (OpenSpec.upto fnExactConvolvePairingsSpec)

/-- 'laws.FnExactIsBicharacter', WHERE WHAT IT READS IS OF BULK AT MOST 1048576: true; the input reads as it did. -/
def fnExactIsBicharacterUptoRow : OpenClaim := { program := "ytnkmpelakhhoiab", sum := "dd856c60940909a4e3946d42755dba343ab2375fb00c650bd42cb3ab48c48cd4", func := "loop.example/g01230/laws.FnExactIsBicharacter", spec := "fnExactIsBicharacter", unfollowed := true, recurses := true, apart := false, narrowed := true }
def FnExactIsBicharacterUptoSaid : Prop := fnExactIsBicharacterUptoRow.holds Try.pinned (OpenSpec.upto fnExactIsBicharacterSpec)

/-- 'laws.FnExactIsCocycle', WHERE WHAT IT READS IS OF BULK AT MOST 1048576: true; the input reads as it did. -/
def fnExactIsCocycleUptoRow : OpenClaim := { program := "ytnkmpelakhhoiab", sum := "dd856c60940909a4e3946d42755dba343ab2375fb00c650bd42cb3ab48c48cd4", func := "loop.example/g01230/laws.FnExactIsCocycle", spec := "fnExactIsCocycle", unfollowed := true, recurses := true, apart := false, narrowed := true }
def FnExactIsCocycleUptoSaid : Prop := fnExactIsCocycleUptoRow.holds Try.pinned (OpenSpec.upto fnExactIsCocycleSpec)

/-- 'laws.FnExactMultiplyMatrices', WHERE WHAT IT READS IS OF BULK AT MOST 1048576: true; the input reads as it did. -/
def fnExactMultiplyMatricesUptoRow : OpenClaim := { program := "ytnkmpelakhhoiab", sum := "dd856c60940909a4e3946d42755dba343ab2375fb00c650bd42cb3ab48c48cd4", func := "loop.example/g01230/laws.FnExactMultiplyMatrices", spec := "fnExactMultiplyMatrices", unfollowed := true, recurses := true, apart := false, narrowed := true }
def FnExactMultiplyMatricesUptoSaid : Prop := fnExactMultiplyMatricesUptoRow.holds Try.pinned (OpenSpec.upto fnExactMultiplyMatricesSpec)

/-- 'laws.FnExactFlipMatrix', WHERE WHAT IT READS IS OF BULK AT MOST 1048576: true; the input reads as it did. -/
def fnExactFlipMatrixUptoRow : OpenClaim := { program := "ytnkmpelakhhoiab", sum := "dd856c60940909a4e3946d42755dba343ab2375fb00c650bd42cb3ab48c48cd4", func := "loop.example/g01230/laws.FnExactFlipMatrix", spec := "fnExactFlipMatrix", unfollowed := true, recurses := true, apart := false, narrowed := true }
def FnExactFlipMatrixUptoSaid : Prop := fnExactFlipMatrixUptoRow.holds Try.pinned (OpenSpec.upto fnExactFlipMatrixSpec)

/-- 'laws.FnExactFirstPartCoproduct', WHERE WHAT IT READS IS OF BULK AT MOST 1048576: true; the input reads as it did. -/
def fnExactFirstPartCoproductUptoRow : OpenClaim := { program := "ytnkmpelakhhoiab", sum := "dd856c60940909a4e3946d42755dba343ab2375fb00c650bd42cb3ab48c48cd4", func := "loop.example/g01230/laws.FnExactFirstPartCoproduct", spec := "fnExactFirstPartCoproduct", unfollowed := true, recurses := true, apart := false, narrowed := true }
def FnExactFirstPartCoproductUptoSaid : Prop := fnExactFirstPartCoproductUptoRow.holds Try.pinned (OpenSpec.upto fnExactFirstPartCoproductSpec)

end Rows
end Go.Proofs.Ytnkmpelakhhoiab
