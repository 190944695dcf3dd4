/- Modules: what a vector does to a vector, on the reference's side; whether maps are a module. -/
import Derived.Test.YtideblodkkgodaaGreatJbo
import Derived.Test.YtideblodkkgodaaGreatJbl
set_option linter.unusedSectionVars false
set_option linter.unusedVariables false
set_option linter.unusedSimpArgs false

namespace Go.V

set_option linter.unusedSimpArgs false

set_option linter.unusedVariables false

/-- The form of a module. -/
def mshp (p d : Int) (N : Nat) (t : Nat → Int) : Prop := (1 ≤ d ∧ d ≤ 8) ∧ ∀ i : Nat, i < 8 → isLin p d d (fun x => t (64 * i + x)) ∧ (N ≤ i → ∀ x, x < 64 → t (64 * i + x) = 0)

/-- A module. -/
def isMod (p : Int) (d : Nat) (N : Nat) (u m t : Nat → Int) : Prop := (∀ k, k < d → ∀ x, x < 8 → cps p t u 8 (8 * k + x) = bas k x) ∧
  ∀ i j, i < N → j < N → ∀ k, k < d → ∀ x, x < 8 → cps p t (fun y => m (64 * i + 8 * j + y)) 8 (8 * k + x) = app p (fun y => t (64 * i + y)) (fun y => t (64 * j + 8 * k + y)) x

def isModule (h : HT) (N : Nat) (d : Int) (t : Nat → Int) : Prop := mshp h.p d N t ∧ isMod h.p d.toNat N h.u h.m t

end Go.V

namespace Go.Proofs.YtideblodkkgodaaGreat

open Go.V

variable [BW]

set_option linter.unusedSimpArgs false

set_option linter.unusedVariables false

set_option maxHeartbeats 4000000

end Go.Proofs.YtideblodkkgodaaGreat

/- Whether maps are a module, on the reference's side. -/

namespace Go.V

set_option linter.unusedSimpArgs false

set_option linter.unusedVariables false

theorem mshp.res {p d : Int} {N : Nat} {t : Nat → Int} (h : mshp p d N t) (ht : isBy 512 t) : isRes p 512 t := fun q hq => by
  have := ((h.2 (q / 64) (by omega)).1.res (fun x hx => ht _ (by omega))) (q % 64) (by omega)
  dsimp only at this
  rwa [show 64 * (q / 64) + q % 64 = q by omega] at this

theorem mshp.zero {p : Int} {d N : Nat} {t : Nat → Int} (h : mshp p d N t) {i j x : Nat} (hi : i < 8) (hj : j < 8) (hx : x < 8) (hz : N ≤ i ∨ d ≤ j ∨ d ≤ x) : t (64 * i + 8 * j + x) = 0 := by
  rcases hz with hz | hz | hz
  · have := (h.2 i hi).2 hz (8 * j + x) (by omega)
    rwa [Nat.add_assoc]
  · have := ((h.2 i hi).1 j hj).2 (by omega) x hx
    rwa [Nat.add_assoc]
  · have := (((h.2 i hi).1 j hj).1 x hx).2 (by omega)
    rwa [Nat.add_assoc]

end Go.V

namespace Go.Proofs.YtideblodkkgodaaGreat

open Go.V

variable [BW]

set_option linter.unusedSimpArgs false

set_option linter.unusedVariables false

set_option maxHeartbeats 4000000

end Go.Proofs.YtideblodkkgodaaGreat

/- Module algebras, on the reference's side. -/

namespace Go.V

set_option linter.unusedSimpArgs false

set_option linter.unusedVariables false

/-- The cells of an algebra. -/
structure AAt (p n' : Int) (u m : Nat → Int) (K : Nat → SV) : Prop where
  p : K 0 = .int .i64 p
  n : K 1 = .int .i64 n'
  u : ∀ q, q < 8 → K (2 + q) = .int .u8 (u q)
  m : ∀ q, q < 512 → K (10 + q) = .int .u8 (m q)

end Go.V

namespace Go.Proofs.YtideblodkkgodaaGreat

open Go.V

variable [BW]

set_option linter.unusedSimpArgs false

set_option linter.unusedVariables false

set_option maxHeartbeats 4000000

end Go.Proofs.YtideblodkkgodaaGreat

/- The code of a Hopf algebra, an algebra and a module, and the constants, on the reference's side. -/

namespace Go.V

set_option linter.unusedSimpArgs false

set_option linter.unusedVariables false

/-- What is asked of a Hopf algebra, an algebra and a module. -/
def q8 (h : HT) (ap an d : Int) (au am t : Nat → Int) : Prop := isHopf h ∧ isAlg ap an au am ∧ isModule h h.N d t

end Go.V

namespace Go.Proofs.YtideblodkkgodaaGreat

open Go.V

variable [BW]

set_option linter.unusedSimpArgs false

set_option linter.unusedVariables false

set_option maxHeartbeats 4000000

end Go.Proofs.YtideblodkkgodaaGreat

/- The codes of a Hopf algebra, an algebra and a module on the program's side. -/

namespace Go.V

variable [BW]

set_option linter.unusedSimpArgs false

set_option linter.unusedVariables false

/-- So many numbers that are 0. -/
structure Zw (w : Nat → Int) (i : Nat) : Prop where
  h : ∀ j, j < i → w j = 0

/-- What is left of a tree of orders. -/
structure OTW (P : Program) (N m : Nat) (l : List Ins) (t : OT) (e : Env) (H : Hp) (n : Nat) (K : Env → Hp → Prop) : Prop where
  h : OTS P N m l t e H n K

end Go.V

namespace Go.Proofs.YtideblodkkgodaaGreat

open Go.V

variable [BW]

set_option linter.unusedSimpArgs false

set_option linter.unusedVariables false

set_option maxHeartbeats 4000000

end Go.Proofs.YtideblodkkgodaaGreat
