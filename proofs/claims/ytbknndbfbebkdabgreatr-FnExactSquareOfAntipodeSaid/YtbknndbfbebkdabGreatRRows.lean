/-
  No cell of these rows narrows 'for every input' (looked for: loops, veiled, ifaces, maps, wideKeys, modest, calm, conditions, laid).
  DERIVED. THE GIVEN ROWS OF THIS SEAT. 4 by the template 'for every input the law returns true; each argument reads behind the call as it read before'; 0 by the template 'total and deterministic' (their statements: YtbknndbfbebkdabGreatRTotals.lean).
  GIVEN WITH THE SEED: the statements are not yours to turn. If you find one false, say at which input.
  Laid BY PROGRAM, IN A SANDBOX (cutbox-rows.mjs): the forced cells as the released guide's own fill.sh prints them over the translation da2c782c7b482c17… (all of the seat's roots in one cut). By AI agents, Wed Nov 11 2026. No macro, syntax, notation, axiom, sorry.
-/
import Derived.Test.YtbknndbfbebkdabGreatRChecked
import GoSem.Claim
import GoSem.ClaimJoined
import GoSem.ClaimMapViews
import Derived.JoinedTies
import Derived.KernelRfl
namespace Go.Proofs.YtbknndbfbebkdabGreatR
/- THE CELL 'sum', in the pinned program and in every row, IS THE sha256 OF THE DUMP (.gsa) THAT YtbknndbfbebkdabGreatRProg.lean LOADS. Nothing in Lean hashes anything: it is a label: what it is worth is what the hold of that sum in a sandbox is worth. -/
noncomputable def Tryz.pinned : Pinned := { name := "ytbknndbfbebkdabgreatr", sum := "da2c782c7b482c173bcceb064e5a1bbc09f162d15902fb26766b9295d30fa54f", checked := Tryz.checked }
namespace Rows
def none {H : Type} : Left H := { results := [], args := [] }

/-- 'laws.FnExactInverseMatrix': WHATEVER THE INPUT: true; the input reads as it did. -/
def fnExactInverseMatrixSpec : ChangeSpec := { name := "fnExactInverseMatrix", fn := fun _ => fun
  | [d1, d2] => { results := [.lit (.bool true)], args := [d1, d2] }
  | _ => none }
def fnExactInverseMatrixRow : OpenClaim := { program := "ytbknndbfbebkdabgreatr", sum := "da2c782c7b482c173bcceb064e5a1bbc09f162d15902fb26766b9295d30fa54f", func := "loop.example/g01230/laws.FnExactInverseMatrix", spec := "fnExactInverseMatrix", unfollowed := true, recurses := true, apart := false }
def FnExactInverseMatrixSaid : Prop := fnExactInverseMatrixRow.holds Tryz.pinned (OpenSpec.ofChange fnExactInverseMatrixSpec)

/-- ITS FALSE NEIGHBOUR: 'it returns false'. Refute it at one input. -/
def fnExactInverseMatrixWrong : ChangeSpec := { name := "fnExactInverseMatrix", fn := fun _ => fun
  | [d1, d2] => { results := [.lit (.bool false)], args := [d1, d2] }
  | _ => none }
def FnExactInverseMatrixWrongFalsely : Prop := fnExactInverseMatrixRow.holds Tryz.pinned (OpenSpec.ofChange fnExactInverseMatrixWrong)

/-- 'laws.FnExactDrinfeldElement': WHATEVER THE INPUT: true; the input reads as it did. -/
def fnExactDrinfeldElementSpec : ChangeSpec := { name := "fnExactDrinfeldElement", fn := fun _ => fun
  | [d1, d2] => { results := [.lit (.bool true)], args := [d1, d2] }
  | _ => none }
def fnExactDrinfeldElementRow : OpenClaim := { program := "ytbknndbfbebkdabgreatr", sum := "da2c782c7b482c173bcceb064e5a1bbc09f162d15902fb26766b9295d30fa54f", func := "loop.example/g01230/laws.FnExactDrinfeldElement", spec := "fnExactDrinfeldElement", unfollowed := true, recurses := true, apart := false }
def FnExactDrinfeldElementSaid : Prop := fnExactDrinfeldElementRow.holds Tryz.pinned (OpenSpec.ofChange fnExactDrinfeldElementSpec)

/-- ITS FALSE NEIGHBOUR: 'it returns false'. Refute it at one input. -/
def fnExactDrinfeldElementWrong : ChangeSpec := { name := "fnExactDrinfeldElement", fn := fun _ => fun
  | [d1, d2] => { results := [.lit (.bool false)], args := [d1, d2] }
  | _ => none }
def FnExactDrinfeldElementWrongFalsely : Prop := fnExactDrinfeldElementRow.holds Tryz.pinned (OpenSpec.ofChange fnExactDrinfeldElementWrong)

/-- 'laws.FnExactSquareOfAntipode': WHATEVER THE INPUT: true; the input reads as it did. -/
def fnExactSquareOfAntipodeSpec : ChangeSpec := { name := "fnExactSquareOfAntipode", fn := fun _ => fun
  | [d1, d2] => { results := [.lit (.bool true)], args := [d1, d2] }
  | _ => none }
def fnExactSquareOfAntipodeRow : OpenClaim := { program := "ytbknndbfbebkdabgreatr", sum := "da2c782c7b482c173bcceb064e5a1bbc09f162d15902fb26766b9295d30fa54f", func := "loop.example/g01230/laws.FnExactSquareOfAntipode", spec := "fnExactSquareOfAntipode", unfollowed := true, recurses := true, apart := false }
def FnExactSquareOfAntipodeSaid : Prop := fnExactSquareOfAntipodeRow.holds Tryz.pinned (OpenSpec.ofChange fnExactSquareOfAntipodeSpec)

/-- ITS FALSE NEIGHBOUR: 'it returns false'. Refute it at one input. -/
def fnExactSquareOfAntipodeWrong : ChangeSpec := { name := "fnExactSquareOfAntipode", fn := fun _ => fun
  | [d1, d2] => { results := [.lit (.bool false)], args := [d1, d2] }
  | _ => none }
def FnExactSquareOfAntipodeWrongFalsely : Prop := fnExactSquareOfAntipodeRow.holds Tryz.pinned (OpenSpec.ofChange fnExactSquareOfAntipodeWrong)

/-- 'laws.FnExactTwistedCoalgebra': WHATEVER THE INPUT: true; the input reads as it did. -/
def fnExactTwistedCoalgebraSpec : ChangeSpec := { name := "fnExactTwistedCoalgebra", fn := fun _ => fun
  | [d1, d2] => { results := [.lit (.bool true)], args := [d1, d2] }
  | _ => none }
def fnExactTwistedCoalgebraRow : OpenClaim := { program := "ytbknndbfbebkdabgreatr", sum := "da2c782c7b482c173bcceb064e5a1bbc09f162d15902fb26766b9295d30fa54f", func := "loop.example/g01230/laws.FnExactTwistedCoalgebra", spec := "fnExactTwistedCoalgebra", unfollowed := true, recurses := true, apart := false }
def FnExactTwistedCoalgebraSaid : Prop := fnExactTwistedCoalgebraRow.holds Tryz.pinned (OpenSpec.ofChange fnExactTwistedCoalgebraSpec)

/-- ITS FALSE NEIGHBOUR: 'it returns false'. Refute it at one input. -/
def fnExactTwistedCoalgebraWrong : ChangeSpec := { name := "fnExactTwistedCoalgebra", fn := fun _ => fun
  | [d1, d2] => { results := [.lit (.bool false)], args := [d1, d2] }
  | _ => none }
def FnExactTwistedCoalgebraWrongFalsely : Prop := fnExactTwistedCoalgebraRow.holds Tryz.pinned (OpenSpec.ofChange fnExactTwistedCoalgebraWrong)

/- THE SECOND FORM. 'bulk': how many values and letters a reading holds, each counted each time it is reached (what is shared counts as often as it is met; a slice's spare places count too). A statement '..UptoSaid' is the law's where the arguments, and the package variables that the reading takes, are together of bulk at most 1048576: NARROWER than '..Said'. Prove '..Said' where nothing that the law and all that it calls make is longer than what came in: it says more and counts as full. Else prove '..UptoSaid'. A law counts once. -/
mutual
def uptoBulk {H : Type} : DataW H → Nat
  | .lit (.string bytes) => bytes.length + 1
  | .lit _ => 1
  | .nil => 1
  | .ptr d => uptoBulk d + 1
  | .slice elems spare => uptoBulkAll elems + uptoBulkAll spare + 1
  | .agg parts => uptoBulkAll parts + 1
  | .iface _ d => uptoBulk d + 1
  | .map entries => uptoBulkEntries entries + 1
  | .held _ => 1
def uptoBulkAll {H : Type} : List (DataW H) → Nat
  | [] => 0
  | d :: r => uptoBulk d + uptoBulkAll r
def uptoBulkEntries {H : Type} : List (Lit × DataW H) → Nat
  | [] => 0
  | x :: r => uptoBulkEntry x + uptoBulkEntries r
def uptoBulkEntry {H : Type} : Lit × DataW H → Nat
  | (.string bytes, d) => bytes.length + uptoBulk d + 1
  | (_, d) => uptoBulk d + 1
 end
def uptoSmall : (H : Type) → List (DataW H) → Bool := fun _ ds => decide (uptoBulkAll ds ≤ 1048576)
def OpenSpec.upto (s : _root_.Go.ChangeSpec) : _root_.Go.OpenSpec := { _root_.Go.OpenSpec.ofChange s with cond := some uptoSmall }

/-- 'laws.FnExactInverseMatrix', WHERE WHAT IT READS IS OF BULK AT MOST 1048576: true; the input reads as it did. -/
def fnExactInverseMatrixUptoRow : OpenClaim := { program := "ytbknndbfbebkdabgreatr", sum := "da2c782c7b482c173bcceb064e5a1bbc09f162d15902fb26766b9295d30fa54f", func := "loop.example/g01230/laws.FnExactInverseMatrix", spec := "fnExactInverseMatrix", unfollowed := true, recurses := true, apart := false, narrowed := true }
def FnExactInverseMatrixUptoSaid : Prop := fnExactInverseMatrixUptoRow.holds Tryz.pinned (OpenSpec.upto fnExactInverseMatrixSpec)

/-- 'laws.FnExactDrinfeldElement', WHERE WHAT IT READS IS OF BULK AT MOST 1048576: true; the input reads as it did. -/
def fnExactDrinfeldElementUptoRow : OpenClaim := { program := "ytbknndbfbebkdabgreatr", sum := "da2c782c7b482c173bcceb064e5a1bbc09f162d15902fb26766b9295d30fa54f", func := "loop.example/g01230/laws.FnExactDrinfeldElement", spec := "fnExactDrinfeldElement", unfollowed := true, recurses := true, apart := false, narrowed := true }
def FnExactDrinfeldElementUptoSaid : Prop := fnExactDrinfeldElementUptoRow.holds Tryz.pinned (OpenSpec.upto fnExactDrinfeldElementSpec)

/-- 'laws.FnExactSquareOfAntipode', WHERE WHAT IT READS IS OF BULK AT MOST 1048576: true; the input reads as it did. -/
def fnExactSquareOfAntipodeUptoRow : OpenClaim := { program := "ytbknndbfbebkdabgreatr", sum := "da2c782c7b482c173bcceb064e5a1bbc09f162d15902fb26766b9295d30fa54f", func := "loop.example/g01230/laws.FnExactSquareOfAntipode", spec := "fnExactSquareOfAntipode", unfollowed := true, recurses := true, apart := false, narrowed := true }
def FnExactSquareOfAntipodeUptoSaid : Prop := fnExactSquareOfAntipodeUptoRow.holds Tryz.pinned (OpenSpec.upto fnExactSquareOfAntipodeSpec)

/-- 'laws.FnExactTwistedCoalgebra', WHERE WHAT IT READS IS OF BULK AT MOST 1048576: true; the input reads as it did. -/
def fnExactTwistedCoalgebraUptoRow : OpenClaim := { program := "ytbknndbfbebkdabgreatr", sum := "da2c782c7b482c173bcceb064e5a1bbc09f162d15902fb26766b9295d30fa54f", func := "loop.example/g01230/laws.FnExactTwistedCoalgebra", spec := "fnExactTwistedCoalgebra", unfollowed := true, recurses := true, apart := false, narrowed := true }
def FnExactTwistedCoalgebraUptoSaid : Prop := fnExactTwistedCoalgebraUptoRow.holds Tryz.pinned (OpenSpec.upto fnExactTwistedCoalgebraSpec)

end Rows
end Go.Proofs.YtbknndbfbebkdabGreatR
