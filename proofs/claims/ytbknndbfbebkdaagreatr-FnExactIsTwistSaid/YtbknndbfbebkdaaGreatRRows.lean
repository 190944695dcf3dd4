/-
  No cell of these rows narrows 'for every input' (looked for: loops, veiled, ifaces, maps, wideKeys, modest, calm, conditions, laid).
  DERIVED. THE GIVEN ROWS OF THIS SEAT. 5 by the template 'for every input the law returns true; each argument reads behind the call as it read before'; 0 by the template 'total and deterministic' (their statements: YtbknndbfbebkdaaGreatRTotals.lean).
  GIVEN WITH THE SEED: the statements are not yours to turn. If you find one false, say at which input.
  Laid BY PROGRAM, IN A SANDBOX (cutbox-rows.mjs): the forced cells as the released guide's own fill.sh prints them over the translation 80cc1ff6f064d0ae… (all of the seat's roots in one cut). By AI agents, Wed Nov 11 2026. No macro, syntax, notation, axiom, sorry.
-/
import Derived.Test.YtbknndbfbebkdaaGreatRChecked
import GoSem.Claim
import GoSem.ClaimJoined
import GoSem.ClaimMapViews
import Derived.JoinedTies
import Derived.KernelRfl
namespace Go.Proofs.YtbknndbfbebkdaaGreatR
/- THE CELL 'sum', in the pinned program and in every row, IS THE sha256 OF THE DUMP (.gsa) THAT YtbknndbfbebkdaaGreatRProg.lean LOADS. Nothing in Lean hashes anything: it is a label: what it is worth is what the hold of that sum in a sandbox is worth. -/
noncomputable def Tryz.pinned : Pinned := { name := "ytbknndbfbebkdaagreatr", sum := "80cc1ff6f064d0aec723ab4c7ebd16de8aee72581d6d61dbd30a4b42b2ee30f2", checked := Tryz.checked }
namespace Rows
def none {H : Type} : Left H := { results := [], args := [] }

/-- 'laws.FnExactIsTwist': WHATEVER THE INPUT: true; the input reads as it did. -/
def fnExactIsTwistSpec : ChangeSpec := { name := "fnExactIsTwist", fn := fun _ => fun
  | [d1, d2] => { results := [.lit (.bool true)], args := [d1, d2] }
  | _ => none }
def fnExactIsTwistRow : OpenClaim := { program := "ytbknndbfbebkdaagreatr", sum := "80cc1ff6f064d0aec723ab4c7ebd16de8aee72581d6d61dbd30a4b42b2ee30f2", func := "loop.example/g01230/laws.FnExactIsTwist", spec := "fnExactIsTwist", unfollowed := true, recurses := true, apart := false }
def FnExactIsTwistSaid : Prop := fnExactIsTwistRow.holds Tryz.pinned (OpenSpec.ofChange fnExactIsTwistSpec)

/-- ITS FALSE NEIGHBOUR: 'it returns false'. Refute it at one input. -/
def fnExactIsTwistWrong : ChangeSpec := { name := "fnExactIsTwist", fn := fun _ => fun
  | [d1, d2] => { results := [.lit (.bool false)], args := [d1, d2] }
  | _ => none }
def FnExactIsTwistWrongFalsely : Prop := fnExactIsTwistRow.holds Tryz.pinned (OpenSpec.ofChange fnExactIsTwistWrong)

/-- 'laws.FnExactTwistedAlgebra': WHATEVER THE INPUT: true; the input reads as it did. -/
def fnExactTwistedAlgebraSpec : ChangeSpec := { name := "fnExactTwistedAlgebra", fn := fun _ => fun
  | [d1, d2] => { results := [.lit (.bool true)], args := [d1, d2] }
  | _ => none }
def fnExactTwistedAlgebraRow : OpenClaim := { program := "ytbknndbfbebkdaagreatr", sum := "80cc1ff6f064d0aec723ab4c7ebd16de8aee72581d6d61dbd30a4b42b2ee30f2", func := "loop.example/g01230/laws.FnExactTwistedAlgebra", spec := "fnExactTwistedAlgebra", unfollowed := true, recurses := true, apart := false }
def FnExactTwistedAlgebraSaid : Prop := fnExactTwistedAlgebraRow.holds Tryz.pinned (OpenSpec.ofChange fnExactTwistedAlgebraSpec)

/-- ITS FALSE NEIGHBOUR: 'it returns false'. Refute it at one input. -/
def fnExactTwistedAlgebraWrong : ChangeSpec := { name := "fnExactTwistedAlgebra", fn := fun _ => fun
  | [d1, d2] => { results := [.lit (.bool false)], args := [d1, d2] }
  | _ => none }
def FnExactTwistedAlgebraWrongFalsely : Prop := fnExactTwistedAlgebraRow.holds Tryz.pinned (OpenSpec.ofChange fnExactTwistedAlgebraWrong)

/-- 'laws.FnExactConditionThatFails': WHATEVER THE INPUT: true; the input reads as it did. -/
def fnExactConditionThatFailsSpec : ChangeSpec := { name := "fnExactConditionThatFails", fn := fun _ => fun
  | [d1, d2] => { results := [.lit (.bool true)], args := [d1, d2] }
  | _ => none }
def fnExactConditionThatFailsRow : OpenClaim := { program := "ytbknndbfbebkdaagreatr", sum := "80cc1ff6f064d0aec723ab4c7ebd16de8aee72581d6d61dbd30a4b42b2ee30f2", func := "loop.example/g01230/laws.FnExactConditionThatFails", spec := "fnExactConditionThatFails", unfollowed := true, recurses := true, apart := false }
def FnExactConditionThatFailsSaid : Prop := fnExactConditionThatFailsRow.holds Tryz.pinned (OpenSpec.ofChange fnExactConditionThatFailsSpec)

/-- ITS FALSE NEIGHBOUR: 'it returns false'. Refute it at one input. -/
def fnExactConditionThatFailsWrong : ChangeSpec := { name := "fnExactConditionThatFails", fn := fun _ => fun
  | [d1, d2] => { results := [.lit (.bool false)], args := [d1, d2] }
  | _ => none }
def FnExactConditionThatFailsWrongFalsely : Prop := fnExactConditionThatFailsRow.holds Tryz.pinned (OpenSpec.ofChange fnExactConditionThatFailsWrong)

/-- 'laws.FnExactIsUniversal': WHATEVER THE INPUT: true; the input reads as it did. -/
def fnExactIsUniversalSpec : ChangeSpec := { name := "fnExactIsUniversal", fn := fun _ => fun
  | [d1, d2] => { results := [.lit (.bool true)], args := [d1, d2] }
  | _ => none }
def fnExactIsUniversalRow : OpenClaim := { program := "ytbknndbfbebkdaagreatr", sum := "80cc1ff6f064d0aec723ab4c7ebd16de8aee72581d6d61dbd30a4b42b2ee30f2", func := "loop.example/g01230/laws.FnExactIsUniversal", spec := "fnExactIsUniversal", unfollowed := true, recurses := true, apart := false }
def FnExactIsUniversalSaid : Prop := fnExactIsUniversalRow.holds Tryz.pinned (OpenSpec.ofChange fnExactIsUniversalSpec)

/-- ITS FALSE NEIGHBOUR: 'it returns false'. Refute it at one input. -/
def fnExactIsUniversalWrong : ChangeSpec := { name := "fnExactIsUniversal", fn := fun _ => fun
  | [d1, d2] => { results := [.lit (.bool false)], args := [d1, d2] }
  | _ => none }
def FnExactIsUniversalWrongFalsely : Prop := fnExactIsUniversalRow.holds Tryz.pinned (OpenSpec.ofChange fnExactIsUniversalWrong)

/-- 'laws.FnExactIsTriangular': WHATEVER THE INPUT: true; the input reads as it did. -/
def fnExactIsTriangularSpec : ChangeSpec := { name := "fnExactIsTriangular", fn := fun _ => fun
  | [d1, d2] => { results := [.lit (.bool true)], args := [d1, d2] }
  | _ => none }
def fnExactIsTriangularRow : OpenClaim := { program := "ytbknndbfbebkdaagreatr", sum := "80cc1ff6f064d0aec723ab4c7ebd16de8aee72581d6d61dbd30a4b42b2ee30f2", func := "loop.example/g01230/laws.FnExactIsTriangular", spec := "fnExactIsTriangular", unfollowed := true, recurses := true, apart := false }
def FnExactIsTriangularSaid : Prop := fnExactIsTriangularRow.holds Tryz.pinned (OpenSpec.ofChange fnExactIsTriangularSpec)

/-- ITS FALSE NEIGHBOUR: 'it returns false'. Refute it at one input. -/
def fnExactIsTriangularWrong : ChangeSpec := { name := "fnExactIsTriangular", fn := fun _ => fun
  | [d1, d2] => { results := [.lit (.bool false)], args := [d1, d2] }
  | _ => none }
def FnExactIsTriangularWrongFalsely : Prop := fnExactIsTriangularRow.holds Tryz.pinned (OpenSpec.ofChange fnExactIsTriangularWrong)

/- THE SECOND FORM. 'bulk': how many values and letters a reading holds, each counted each time it is reached (what is shared counts as often as it is met; a slice's spare places count too). A statement '..UptoSaid' is the law's where the arguments, and the package variables that the reading takes, are together of bulk at most 1048576: NARROWER than '..Said'. Prove '..Said' where nothing that the law and all that it calls make is longer than what came in: it says more and counts as full. Else prove '..UptoSaid'. A law counts once. -/
mutual
def uptoBulk {H : Type} : DataW H → Nat
  | .lit (.string bytes) => bytes.length + 1
  | .lit _ => 1
  | .nil => 1
  | .ptr d => uptoBulk d + 1
  | .slice elems spare => uptoBulkAll elems + uptoBulkAll spare + 1
  | .agg parts => uptoBulkAll parts + 1
  | .iface _ d => uptoBulk d + 1
  | .map entries => uptoBulkEntries entries + 1
  | .held _ => 1
def uptoBulkAll {H : Type} : List (DataW H) → Nat
  | [] => 0
  | d :: r => uptoBulk d + uptoBulkAll r
def uptoBulkEntries {H : Type} : List (Lit × DataW H) → Nat
  | [] => 0
  | x :: r => uptoBulkEntry x + uptoBulkEntries r
def uptoBulkEntry {H : Type} : Lit × DataW H → Nat
  | (.string bytes, d) => bytes.length + uptoBulk d + 1
  | (_, d) => uptoBulk d + 1
 end
def uptoSmall : (H : Type) → List (DataW H) → Bool := fun _ ds => decide (uptoBulkAll ds ≤ 1048576)
def OpenSpec.upto (s : _root_.Go.ChangeSpec) : _root_.Go.OpenSpec := { _root_.Go.OpenSpec.ofChange s with cond := some uptoSmall }

/-- 'laws.FnExactIsTwist', WHERE WHAT IT READS IS OF BULK AT MOST 1048576: true; the input reads as it did. -/
def fnExactIsTwistUptoRow : OpenClaim := { program := "ytbknndbfbebkdaagreatr", sum := "80cc1ff6f064d0aec723ab4c7ebd16de8aee72581d6d61dbd30a4b42b2ee30f2", func := "loop.example/g01230/laws.FnExactIsTwist", spec := "fnExactIsTwist", unfollowed := true, recurses := true, apart := false, narrowed := true }
def FnExactIsTwistUptoSaid : Prop := fnExactIsTwistUptoRow.holds Tryz.pinned (OpenSpec.upto fnExactIsTwistSpec)

/-- 'laws.FnExactTwistedAlgebra', WHERE WHAT IT READS IS OF BULK AT MOST 1048576: true; the input reads as it did. -/
def fnExactTwistedAlgebraUptoRow : OpenClaim := { program := "ytbknndbfbebkdaagreatr", sum := "80cc1ff6f064d0aec723ab4c7ebd16de8aee72581d6d61dbd30a4b42b2ee30f2", func := "loop.example/g01230/laws.FnExactTwistedAlgebra", spec := "fnExactTwistedAlgebra", unfollowed := true, recurses := true, apart := false, narrowed := true }
def FnExactTwistedAlgebraUptoSaid : Prop := fnExactTwistedAlgebraUptoRow.holds Tryz.pinned (OpenSpec.upto fnExactTwistedAlgebraSpec)

/-- 'laws.FnExactConditionThatFails', WHERE WHAT IT READS IS OF BULK AT MOST 1048576: true; the input reads as it did. -/
def fnExactConditionThatFailsUptoRow : OpenClaim := { program := "ytbknndbfbebkdaagreatr", sum := "80cc1ff6f064d0aec723ab4c7ebd16de8aee72581d6d61dbd30a4b42b2ee30f2", func := "loop.example/g01230/laws.FnExactConditionThatFails", spec := "fnExactConditionThatFails", unfollowed := true, recurses := true, apart := false, narrowed := true }
def FnExactConditionThatFailsUptoSaid : Prop := fnExactConditionThatFailsUptoRow.holds Tryz.pinned (OpenSpec.upto fnExactConditionThatFailsSpec)

/-- 'laws.FnExactIsUniversal', WHERE WHAT IT READS IS OF BULK AT MOST 1048576: true; the input reads as it did. -/
def fnExactIsUniversalUptoRow : OpenClaim := { program := "ytbknndbfbebkdaagreatr", sum := "80cc1ff6f064d0aec723ab4c7ebd16de8aee72581d6d61dbd30a4b42b2ee30f2", func := "loop.example/g01230/laws.FnExactIsUniversal", spec := "fnExactIsUniversal", unfollowed := true, recurses := true, apart := false, narrowed := true }
def FnExactIsUniversalUptoSaid : Prop := fnExactIsUniversalUptoRow.holds Tryz.pinned (OpenSpec.upto fnExactIsUniversalSpec)

/-- 'laws.FnExactIsTriangular', WHERE WHAT IT READS IS OF BULK AT MOST 1048576: true; the input reads as it did. -/
def fnExactIsTriangularUptoRow : OpenClaim := { program := "ytbknndbfbebkdaagreatr", sum := "80cc1ff6f064d0aec723ab4c7ebd16de8aee72581d6d61dbd30a4b42b2ee30f2", func := "loop.example/g01230/laws.FnExactIsTriangular", spec := "fnExactIsTriangular", unfollowed := true, recurses := true, apart := false, narrowed := true }
def FnExactIsTriangularUptoSaid : Prop := fnExactIsTriangularUptoRow.holds Tryz.pinned (OpenSpec.upto fnExactIsTriangularSpec)

end Rows
end Go.Proofs.YtbknndbfbebkdaaGreatR
