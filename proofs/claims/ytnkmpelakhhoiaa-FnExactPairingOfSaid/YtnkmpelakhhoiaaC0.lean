/- Numbers: primes, powers, bytes, fields. Plain. -/
import Derived.Test.YtnkmpelakhhoiaaVL
namespace Go.V

def fldC (p n : Int) : Nat → SV := fun i => match i with | 0 => .int .i64 p | _ => .int .i64 n
abbrev fld (p n : Int) : AV := .arr 2 (fldC p n)
theorem fldC_of {c : Nat → SV} {p q : Int} (h0 : c 0 = .int .i64 p) (h1 : c 1 = .int .i64 q) : ∀ i, i < 2 → c i = fldC p q i := by
  intro i hi
  match i, hi with
  | 0, _ => exact h0
  | 1, _ => exact h1
/-- Cells that are bytes. -/

theorem mulB {a b A B : Int} (h1 : 0 ≤ a) (h2 : a ≤ A) (h3 : 0 ≤ b) (h4 : b ≤ B) : 0 ≤ a * b ∧ a * b ≤ A * B :=
  ⟨Int.mul_nonneg h1 h3, Int.mul_le_mul h2 h4 h3 (by omega)⟩

/-- A prime of at most 31. -/
def isP (p : Int) : Bool := [2, 3, 5, 7, 11, 13, 17, 19, 23, 29, 31].contains p

theorem isP_le {p : Int} (h : isP p = true) : 2 ≤ p ∧ p ≤ 31 := by
  simp [isP] at h
  omega

theorem isP_nat : ∀ p : Nat, p < 32 → isP (p : Int) = (decide (2 ≤ p) && (List.range p).all fun k => decide (k < 2) || p % k != 0) := by decide +kernel

theorem isP_sq : ∀ p : Nat, p < 32 → isP (p : Int) = (decide (2 ≤ p) && (List.range 6).all fun k => decide (k < 2) || decide (p < k * k) || p % k != 0) := by decide +kernel

theorem isP_out {p : Int} (h : p < 2 ∨ 31 < p) : isP p = false := by
  cases e : isP p with
  | false => rfl
  | true => have := isP_le e; omega

/-- Found a divisor. -/
theorem isP_div {p : Int} {k : Nat} (h2 : 2 ≤ k) (hk : (k : Int) < p) (h : p % k = 0) : isP p = false := by
  by_cases h1 : p ≤ 31
  · obtain ⟨q, rfl⟩ : ∃ q : Nat, p = q := ⟨p.toNat, by omega⟩
    rw [isP_nat q (by omega), Bool.and_eq_false_iff]
    right
    rw [List.all_eq_false]
    refine ⟨k, by simp; omega, ?_⟩
    have : q % k = 0 := by exact_mod_cast h
    simp [this]; omega
  · exact isP_out (.inr (by omega))

/-- No divisor among the small ones. -/
theorem isP_yes {p : Int} (h1 : 2 ≤ p) (h2 : p ≤ 31) (h : ∀ k : Nat, 2 ≤ k → ((k * k : Nat) : Int) ≤ p → p % k ≠ 0) : isP p = true := by
  obtain ⟨q, rfl⟩ : ∃ q : Nat, p = q := ⟨p.toNat, by omega⟩
  rw [isP_sq q (by omega), Bool.and_eq_true]
  refine ⟨by simp; omega, ?_⟩
  rw [List.all_eq_true]
  intro k hk
  simp only [Bool.or_eq_true, decide_eq_true_eq, bne_iff_ne, ne_eq]
  by_cases h3 : k < 2
  · exact .inl (.inl h3)
  · by_cases h4 : q < k * k
    · exact .inl (.inr h4)
    · right
      intro h5
      exact h k (by omega) (by omega) (by exact_mod_cast h5)

theorem isP_yes' {p : Int} (h1 : 2 ≤ p) (h2 : p ≤ 31) (h : ∀ k : Nat, 2 ≤ k → (k : Int) < p → p % k ≠ 0) : isP p = true :=
  isP_yes h1 h2 fun k hk hkk => h k hk (by
    have : k * 2 ≤ k * k := Nat.mul_le_mul_left _ hk
    omega)

theorem emodL (a b p : Int) : (a % p) * b % p = a * b % p := by
  rw [Int.mul_emod, Int.emod_emod, ← Int.mul_emod]
theorem emodR (a b p : Int) : a * (b % p) % p = a * b % p := by
  rw [Int.mul_emod, Int.emod_emod, ← Int.mul_emod]

/-- Powers modulo p. -/
def pw (p x : Int) : Nat → Int
  | 0 => 1
  | k + 1 => pw p x k * x % p

theorem pw_b (p x : Int) (hp : 2 ≤ p) (k : Nat) : 0 ≤ pw p x k ∧ pw p x k < p := by
  cases k with
  | zero => simp [pw]; omega
  | succ k => exact ⟨Int.emod_nonneg _ (by omega), Int.emod_lt_of_pos _ (by omega)⟩

theorem pw_add (p x : Int) (hp : 2 ≤ p) (a b : Nat) : pw p x (a + b) = pw p x a * pw p x b % p := by
  induction b with
  | zero =>
    have := pw_b p x hp a
    simp only [Nat.add_zero, pw, Int.mul_one]
    exact (Int.emod_eq_of_lt this.1 this.2).symm
  | succ b ih =>
    show pw p x (a + b) * x % p = pw p x a * (pw p x b * x % p) % p
    rw [ih, emodL, emodR, Int.mul_assoc]

theorem pw_mul_one (p x : Int) (hp : 2 ≤ p) (n : Nat) (h : pw p x n = 1) (k : Nat) : pw p x (n * k) = 1 := by
  induction k with
  | zero => rfl
  | succ k ih => rw [Nat.mul_succ, pw_add p x hp, ih, h]; exact Int.emod_eq_of_lt (by omega) (by omega)

theorem pw_mod (p x : Int) (hp : 2 ≤ p) (n : Nat) (h : pw p x n = 1) (k : Nat) : pw p x k = pw p x (k % n) := by
  have h1 := Nat.div_add_mod k n
  have h2 := pw_b p x hp (k % n)
  rw [← h1, pw_add p x hp, pw_mul_one p x hp n h, Int.one_mul, Nat.mul_add_mod, Nat.mod_mod]
  exact Int.emod_eq_of_lt h2.1 h2.2

end Go.V
