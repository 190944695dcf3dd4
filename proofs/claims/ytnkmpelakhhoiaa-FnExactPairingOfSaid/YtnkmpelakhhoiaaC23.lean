/- Normed pairings, products, flips and coproducts of matrices, on both sides, and their laws. -/
import Derived.Test.YtnkmpelakhhoiaaC22
import Derived.Test.YtnkmpelakhhoiaaLH
namespace Go.V
/-- A matrix with its places turned. -/
def trn (s : Nat → Int) : Nat → Int := fun q => s (8 * (q % 8) + q / 8)
theorem cellsTo_more {B : Nat → Int} {x y : Nat} (h : x ≤ y) (hz : ∀ q, x ≤ q → q < y → B q = 0) : cellsTo B x = cellsTo B y := by
  funext q
  unfold cellsTo
  by_cases h1 : q < x
  · rw [if_pos h1, if_pos (by omega)]
  · rw [if_neg h1]
    by_cases h2 : q < y
    · rw [if_pos h2, hz q (by omega) h2]
    · rw [if_neg h2]
theorem trn_zero {s : Nat → Int} {a q : Nat} (hs : lz a s) (hq : q < 64) (h : a ≤ q / 8 ∨ a ≤ q % 8) : trn s q = 0 := by
  unfold trn; exact hs (q % 8) (q / 8) (by omega) (by omega) (by omega)
theorem rowsTo_more {A B : Nat → Int} {x y : Nat} (hxy : x ≤ y) (h : ∀ q, 8 * x ≤ q → q < 8 * y → A q = B q) : rowsTo A B x = rowsTo A B y := by
  funext q
  unfold rowsTo
  by_cases h1 : q < 8 * x
  · rw [if_pos h1, if_pos (by omega)]
  · rw [if_neg h1]
    by_cases h2 : q < 8 * y
    · rw [if_pos h2]; exact h q (by omega) h2
    · rw [if_neg h2]
/-- The first part of a matrix replaced by its coproduct: the first k of it. -/
def fpt (p : Int) (c r : Nat → Int) (k : Nat) : Nat → Int := fun q => sm (fun t => c (64 * t + q / 8) * r (8 * t + q % 8)) k % p
theorem fpt_zero (p : Int) (c r : Nat → Int) : fpt p c r 0 = fun _ => 0 := by funext q; simp [fpt, sm]
theorem fpt_res {p : Int} (hp : 2 ≤ p) (c r : Nat → Int) (k N : Nat) : isRes p N (fpt p c r k) := fun _ _ => modB _ hp
theorem fpt_row (p : Int) (c r : Nat → Int) (k i j y : Nat) (hy : y < 8) : pl p (fun y => fpt p c r k (64 * i + 8 * j + y)) (c (64 * k + 8 * i + j)) (fun y => r (8 * k + y)) y = fpt p c r (k + 1) (8 * (8 * i + j) + y) := by
  unfold pl fpt
  rw [modAddL, sm, show 64 * i + 8 * j + y = 8 * (8 * i + j) + y by omega, show (8 * (8 * i + j) + y) / 8 = 8 * i + j by omega, show (8 * (8 * i + j) + y) % 8 = y by omega, Nat.add_assoc (64 * k)]
theorem fpt_same {p : Int} {c r : Nat → Int} {k q : Nat} (h : c (64 * k + q / 8) = 0) : fpt p c r k q = fpt p c r (k + 1) q := by
  unfold fpt; rw [sm, h, Int.zero_mul, Int.add_zero]
end Go.V
namespace Go.Proofs.Ytnkmpelakhhoiaa
open Go.V
set_option linter.unusedSimpArgs false
set_option linter.unusedVariables false
set_option maxHeartbeats 4000000

end Go.Proofs.Ytnkmpelakhhoiaa
