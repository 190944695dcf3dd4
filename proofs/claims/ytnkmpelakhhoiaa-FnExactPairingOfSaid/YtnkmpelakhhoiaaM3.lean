/- Sums, vectors, linear maps and tables of numbers modulo a prime, without a program in sight. -/
import Derived.Test.YtnkmpelakhhoiaaC0
namespace Go.V
set_option linter.unusedSimpArgs false
set_option linter.unusedVariables false

/-- The sum of the first n. -/
def sm (f : Nat → Int) : Nat → Int
  | 0 => 0
  | k + 1 => sm f k + f k

theorem sm_congr {f g : Nat → Int} : ∀ {n : Nat}, (∀ i, i < n → f i = g i) → sm f n = sm g n
  | 0, _ => rfl
  | n + 1, h => by rw [sm, sm, sm_congr (fun i hi => h i (by omega)), h n (by omega)]

theorem sm_zero {f : Nat → Int} : ∀ {n : Nat}, (∀ i, i < n → f i = 0) → sm f n = 0
  | 0, _ => rfl
  | n + 1, h => by rw [sm, sm_zero (fun i hi => h i (by omega)), h n (by omega)]; rfl

/-- What stands behind n is 0: the sum of more is the sum of n. -/
theorem sm_more {f : Nat → Int} {n : Nat} : ∀ {m : Nat}, n ≤ m → (∀ i, n ≤ i → i < m → f i = 0) → sm f m = sm f n
  | 0, h, _ => by rw [show n = 0 by omega]
  | m + 1, h, hz => by
    by_cases e : n = m + 1
    · rw [e]
    · rw [sm, sm_more (by omega) (fun i h1 h2 => hz i h1 (by omega)), hz m (by omega) (by omega), Int.add_zero]

theorem sm_emod (f : Nat → Int) (p : Int) : ∀ n : Nat, sm (fun i => f i % p) n % p = sm f n % p
  | 0 => rfl
  | n + 1 => by rw [sm, sm, Int.add_emod, sm_emod f p n, Int.emod_emod_of_dvd _ (Int.dvd_refl p), ← Int.add_emod]

theorem sm_modc {f g : Nat → Int} {p : Int} {n : Nat} (h : ∀ i, i < n → f i % p = g i % p) : sm f n % p = sm g n % p := by
  rw [← sm_emod f, ← sm_emod g, sm_congr h]

theorem sm_mul (k : Int) (f : Nat → Int) : ∀ n : Nat, k * sm f n = sm (fun i => k * f i) n
  | 0 => by simp [sm]
  | n + 1 => by rw [sm, sm, Int.mul_add, sm_mul k f n]

theorem sm_mulr (k : Int) (f : Nat → Int) (n : Nat) : sm f n * k = sm (fun i => f i * k) n := by
  rw [Int.mul_comm, sm_mul]
  exact sm_congr (fun i _ => Int.mul_comm _ _)

theorem sm_add (f g : Nat → Int) : ∀ n : Nat, sm (fun i => f i + g i) n = sm f n + sm g n
  | 0 => rfl
  | n + 1 => by simp only [sm]; rw [sm_add f g n]; omega

theorem sm_swap (f : Nat → Nat → Int) (m : Nat) : ∀ n : Nat, sm (fun i => sm (fun j => f i j) m) n = sm (fun j => sm (fun i => f i j) n) m
  | 0 => by simp only [sm]; exact (sm_zero (fun _ _ => rfl)).symm
  | n + 1 => by simp only [sm]; rw [sm_swap f m n, sm_add]

theorem sm_b {f : Nat → Int} {B : Int} : ∀ {n : Nat}, (∀ i, i < n → 0 ≤ f i ∧ f i ≤ B) → 0 ≤ sm f n ∧ sm f n ≤ n * B
  | 0, _ => by simp [sm]
  | n + 1, h => by
    have h1 := sm_b (n := n) (fun i hi => h i (by omega))
    have h2 := h n (by omega)
    rw [sm]
    have : ((n + 1 : Nat) : Int) * B = n * B + B := by rw [Int.natCast_add, Int.add_mul]; omega
    omega

/-- All but one are 0. -/
theorem sm_one {f : Nat → Int} {j : Nat} : ∀ {n : Nat}, j < n → (∀ i, i < n → i ≠ j → f i = 0) → sm f n = f j
  | 0, h, _ => by omega
  | n + 1, h, hz => by
    rw [sm]
    by_cases e : n = j
    · subst e
      rw [sm_zero (fun i hi => hz i (by omega) (by omega)), Int.zero_add]
    · rw [hz n (by omega) e, Int.add_zero]
      exact sm_one (by omega) (fun i hi hne => hz i (by omega) hne)

theorem modAdd (a b k p : Int) : (a % p + k * (b % p)) % p = (a + k * b) % p := by
  rw [Int.add_emod, Int.emod_emod_of_dvd _ (Int.dvd_refl p), emodR, ← Int.add_emod]
theorem modAddL (a b p : Int) : (a % p + b) % p = (a + b) % p := by
  rw [Int.add_emod, Int.emod_emod_of_dvd _ (Int.dvd_refl p), ← Int.add_emod]
theorem modAddR (a b p : Int) : (a + b % p) % p = (a + b) % p := by
  rw [Int.add_emod, Int.emod_emod_of_dvd _ (Int.dvd_refl p), ← Int.add_emod]
theorem modB (a : Int) {p : Int} (hp : 2 ≤ p) : 0 ≤ a % p ∧ a % p < p := ⟨Int.emod_nonneg _ (by omega), Int.emod_lt_of_pos _ (by omega)⟩
theorem modSelf {a p : Int} (h : 0 ≤ a ∧ a < p) : a % p = a := Int.emod_eq_of_lt h.1 h.2

/-! ### Shapes -/
def sz (p n : Int) : Prop := isP p = true ∧ (1 ≤ n ∧ n ≤ 8)
/-- v has the first n places, and numbers below p. -/
def isVec (p n : Int) (v : Nat → Int) : Prop := ∀ i : Nat, i < 8 → v i < p ∧ (n ≤ i → v i = 0)
def isLin (p n s : Int) (l : Nat → Int) : Prop := ∀ i : Nat, i < 8 → isVec p s (fun x => l (8 * i + x)) ∧ (n ≤ i → ∀ x, x < 8 → l (8 * i + x) = 0)
def isTab (p n : Int) (t : Nat → Int) : Prop := ∀ i : Nat, i < 8 → isLin p n n (fun x => t (64 * i + x)) ∧ (n ≤ i → ∀ x, x < 64 → t (64 * i + x) = 0)
/-- Bytes. -/
def isBy (N : Nat) (v : Nat → Int) : Prop := ∀ i : Nat, i < N → 0 ≤ v i ∧ v i ≤ 255
/-- Numbers from 0 up to p. -/
def isRes (p : Int) (N : Nat) (v : Nat → Int) : Prop := ∀ i : Nat, i < N → 0 ≤ v i ∧ v i < p
theorem isRes.by {p : Int} {N : Nat} {v : Nat → Int} (h : isRes p N v) (hp : p ≤ 31) : isBy N v := fun i hi => by have := h i hi; omega
theorem isVec.res {p n : Int} {v : Nat → Int} (h : isVec p n v) (hb : isBy 8 v) : isRes p 8 v := fun i hi => ⟨(hb i hi).1, (h i hi).1⟩
theorem isLin.res {p n s : Int} {l : Nat → Int} (h : isLin p n s l) (hb : isBy 64 l) : isRes p 64 l := fun i hi => by
  refine ⟨(hb i hi).1, ?_⟩
  have := ((h (i / 8) (by omega)).1 (i % 8) (by omega)).1
  simpa only [show 8 * (i / 8) + i % 8 = i by omega] using this
theorem isTab.res {p n : Int} {t : Nat → Int} (h : isTab p n t) (hb : isBy 512 t) : isRes p 512 t := fun i hi => by
  refine ⟨(hb i hi).1, ?_⟩
  have := (((h (i / 64) (by omega)).1 (i % 64 / 8) (by omega)).1 (i % 8) (by omega)).1
  simpa only [show 64 * (i / 64) + (8 * (i % 64 / 8) + i % 8) = i by omega] using this

theorem isVec_zero {p n : Int} (hp : 1 ≤ p) : isVec p n (fun _ => 0) := fun _ _ => ⟨show (0 : Int) < p by omega, fun _ => rfl⟩

/-- v and k times w. -/
def pl (p : Int) (v : Nat → Int) (k : Int) (w : Nat → Int) : Nat → Int := fun x => (v x + k * w x) % p
theorem pl_res {p : Int} (hp : 2 ≤ p) (v : Nat → Int) (k : Int) (w : Nat → Int) (N : Nat) : isRes p N (pl p v k w) := fun i _ => modB _ hp
theorem pl_zero {p : Int} {v : Nat → Int} (w : Nat → Int) {N : Nat} (hv : isRes p N v) {i : Nat} (hi : i < N) : pl p v 0 w i = v i := by
  unfold pl; rw [Int.zero_mul, Int.add_zero]; exact modSelf (hv i hi)
theorem pl_mod (p : Int) (a : Nat → Int) (k : Int) (b : Nat → Int) : pl p (fun x => a x % p) k (fun x => b x % p) = fun x => (a x + k * b x) % p := by
  funext x; unfold pl; exact modAdd _ _ _ _
theorem pl_modL (p : Int) (a : Nat → Int) (k : Int) (b : Nat → Int) : pl p (fun x => a x % p) k b = fun x => (a x + k * b x) % p := by
  funext x; unfold pl; exact modAddL _ _ _

/-- The basis element i. -/
def bas (i : Nat) : Nat → Int := fun x => if x = i then 1 else 0

/-- What a linear map makes of a vector. -/
def app (p : Int) (l v : Nat → Int) : Nat → Int := fun x => sm (fun i => v i * l (8 * i + x)) 8 % p
/-- The sum of the products of entries. -/
def dot (p : Int) (v w : Nat → Int) : Int := sm (fun i => v i * w i) 8 % p
/-- The product of two vectors by the table m. -/
def prd (p : Int) (m v w : Nat → Int) : Nat → Int := fun x => sm (fun i => sm (fun j => v i * w j * m (64 * i + 8 * j + x)) 8) 8 % p
/-- The coproduct of a vector by the table c. -/
def cop (p : Int) (c v : Nat → Int) : Nat → Int := fun q => sm (fun i => v i * c (64 * i + q)) 8 % p

end Go.V
