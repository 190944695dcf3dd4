/- Plain laws. -/
import Derived.Test.YtideblodkkgodaaGreatJam
set_option linter.unusedSectionVars false
set_option linter.unusedVariables false
set_option linter.unusedSimpArgs false

namespace Go.V

set_option linter.unusedSimpArgs false

set_option linter.unusedVariables false

set_option maxHeartbeats 4000000

def fldC (p n : Int) : Nat → SV := fun i => match i with | 0 => .int .i64 p | _ => .int .i64 n

abbrev fld (p n : Int) : AV := .arr 2 (fldC p n)

theorem fldC_of {c : Nat → SV} {p q : Int} (h0 : c 0 = .int .i64 p) (h1 : c 1 = .int .i64 q) : ∀ i, i < 2 → c i = fldC p q i := by
  intro i hi
  match i, hi with
  | 0, _ => exact h0
  | 1, _ => exact h1

/-- Cells that are bytes. -/

theorem mulB {a b A B : Int} (h1 : 0 ≤ a) (h2 : a ≤ A) (h3 : 0 ≤ b) (h4 : b ≤ B) : 0 ≤ a * b ∧ a * b ≤ A * B :=
  ⟨Int.mul_nonneg h1 h3, Int.mul_le_mul h2 h4 h3 (by omega)⟩

/-- A prime of at most 31. -/
def isP (p : Int) : Bool := [2, 3, 5, 7, 11, 13, 17, 19, 23, 29, 31].contains p

theorem isP_le {p : Int} (h : isP p = true) : 2 ≤ p ∧ p ≤ 31 := by
  simp [isP] at h
  omega

theorem isP_nat : ∀ p : Nat, p < 32 → isP (p : Int) = (decide (2 ≤ p) && (List.range p).all fun k => decide (k < 2) || p % k != 0) := by decide +kernel

theorem isP_sq : ∀ p : Nat, p < 32 → isP (p : Int) = (decide (2 ≤ p) && (List.range 6).all fun k => decide (k < 2) || decide (p < k * k) || p % k != 0) := by decide +kernel

theorem isP_out {p : Int} (h : p < 2 ∨ 31 < p) : isP p = false := by
  cases e : isP p with
  | false => rfl
  | true => have := isP_le e; omega

/-- Found a divisor. -/
theorem isP_div {p : Int} {k : Nat} (h2 : 2 ≤ k) (hk : (k : Int) < p) (h : p % k = 0) : isP p = false := by
  by_cases h1 : p ≤ 31
  · obtain ⟨q, rfl⟩ : ∃ q : Nat, p = q := ⟨p.toNat, by omega⟩
    rw [isP_nat q (by omega), Bool.and_eq_false_iff]
    right
    rw [List.all_eq_false]
    refine ⟨k, by simp; omega, ?_⟩
    have : q % k = 0 := by exact_mod_cast h
    simp [this]; omega
  · exact isP_out (.inr (by omega))

/-- No divisor among the small ones. -/
theorem isP_yes {p : Int} (h1 : 2 ≤ p) (h2 : p ≤ 31) (h : ∀ k : Nat, 2 ≤ k → ((k * k : Nat) : Int) ≤ p → p % k ≠ 0) : isP p = true := by
  obtain ⟨q, rfl⟩ : ∃ q : Nat, p = q := ⟨p.toNat, by omega⟩
  rw [isP_sq q (by omega), Bool.and_eq_true]
  refine ⟨by simp; omega, ?_⟩
  rw [List.all_eq_true]
  intro k hk
  simp only [Bool.or_eq_true, decide_eq_true_eq, bne_iff_ne, ne_eq]
  by_cases h3 : k < 2
  · exact .inl (.inl h3)
  · by_cases h4 : q < k * k
    · exact .inl (.inr h4)
    · right
      intro h5
      exact h k (by omega) (by omega) (by exact_mod_cast h5)

theorem isP_yes' {p : Int} (h1 : 2 ≤ p) (h2 : p ≤ 31) (h : ∀ k : Nat, 2 ≤ k → (k : Int) < p → p % k ≠ 0) : isP p = true :=
  isP_yes h1 h2 fun k hk hkk => h k hk (by
    have : k * 2 ≤ k * k := Nat.mul_le_mul_left _ hk
    omega)

theorem emodR (a b p : Int) : a * (b % p) % p = a * b % p := by
  rw [Int.mul_emod, Int.emod_emod, ← Int.mul_emod]

theorem inv_any : ∀ p : Nat, p < 32 → isP (p : Int) = true → ∀ r : Nat, r < p → r ≠ 0 → (List.range p).any (fun k => k * r % p == 1) = true := by decide +kernel

theorem inv_ex {p x : Int} (hp : isP p = true) (hx : x % p ≠ 0) : ∃ k : Int, 1 ≤ k ∧ k < p ∧ k * x % p = 1 := by
  have hb := isP_le hp
  obtain ⟨q, rfl⟩ : ∃ q : Nat, p = q := ⟨p.toNat, by omega⟩
  have h1 := Int.emod_nonneg x (show (q : Int) ≠ 0 by omega)
  have h2 := Int.emod_lt_of_pos x (show (0 : Int) < q by omega)
  obtain ⟨r, hr⟩ : ∃ r : Nat, x % q = r := ⟨(x % q).toNat, by omega⟩
  have h := inv_any q (by omega) hp r (by omega) (by omega)
  simp only [List.any_eq_true, List.mem_range, beq_iff_eq] at h
  obtain ⟨k, hk, he⟩ := h
  refine ⟨k, ?_, by omega, ?_⟩
  · rcases Nat.eq_zero_or_pos k with h0 | h0
    · subst h0; simp at he
    · omega
  · rw [← emodR, hr]
    exact_mod_cast he

theorem inv_uniq {p x k k' : Int} (h1 : 0 ≤ k ∧ k < p) (h2 : 0 ≤ k' ∧ k' < p) (h : k * x % p = 1) (h' : k' * x % p = 1) : k = k' := by
  have e1 : k * (k' * x) % p = k := by rw [← emodR, h', Int.mul_one]; exact Int.emod_eq_of_lt h1.1 h1.2
  have e2 : k' * (k * x) % p = k' := by rw [← emodR, h, Int.mul_one]; exact Int.emod_eq_of_lt h2.1 h2.2
  have e3 : k * (k' * x) = k' * (k * x) := by rw [← Int.mul_assoc, Int.mul_comm k k', Int.mul_assoc]
  exact e1.symm.trans ((congrArg (· % p) e3).trans e2)

/-- The inverse of x modulo p. -/
noncomputable def theOne (Q : Int → Prop) : Int := open Classical in if h : ∃ k : Int, Q k then h.choose else 0

noncomputable def inv (p x : Int) : Int := theOne fun k => 1 ≤ k ∧ k < p ∧ k * x % p = 1

theorem inv_spec {p x : Int} (hp : isP p = true) (hx : x % p ≠ 0) : 1 ≤ inv p x ∧ inv p x < p ∧ inv p x * x % p = 1 := by
  have h := inv_ex hp hx
  unfold inv theOne
  rw [dif_pos h]
  exact h.choose_spec

theorem inv_eq {p x k : Int} (hp : isP p = true) (h1 : 1 ≤ k) (h2 : k < p) (h : k * x % p = 1) : inv p x = k := by
  have hx : x % p ≠ 0 := by
    intro h0
    rw [← emodR, h0] at h
    simp at h
  have hs := inv_spec hp hx
  exact inv_uniq ⟨by omega, hs.2.1⟩ ⟨by omega, h2⟩ hs.2.2 h

theorem tmod_facts (x p : Int) (hp : 2 ≤ p) : (x % p = 0 → x.tmod p = 0) ∧ (x % p ≠ 0 → 0 ≤ x → x.tmod p = x % p) ∧ (x % p ≠ 0 → x < 0 → x.tmod p = x % p - p) := by
  rw [Int.tmod_eq_emod]
  refine ⟨fun h => ?_, fun h h0 => ?_, fun h h0 => ?_⟩
  · rw [if_pos (.inr (Int.dvd_of_emod_eq_zero h))]; omega
  · rw [if_pos (.inl h0)]; omega
  · rw [if_neg (by intro hh; rcases hh with hh | hh; omega; exact h (Int.emod_eq_zero_of_dvd hh))]; omega

/-- The sum of the first n. -/
def sm (f : Nat → Int) : Nat → Int
  | 0 => 0
  | k + 1 => sm f k + f k

theorem sm_congr {f g : Nat → Int} : ∀ {n : Nat}, (∀ i, i < n → f i = g i) → sm f n = sm g n
  | 0, _ => rfl
  | n + 1, h => by rw [sm, sm, sm_congr (fun i hi => h i (by omega)), h n (by omega)]

theorem sm_zero {f : Nat → Int} : ∀ {n : Nat}, (∀ i, i < n → f i = 0) → sm f n = 0
  | 0, _ => rfl
  | n + 1, h => by rw [sm, sm_zero (fun i hi => h i (by omega)), h n (by omega)]; rfl

/-- What stands behind n is 0: the sum of more is the sum of n. -/
theorem sm_more {f : Nat → Int} {n : Nat} : ∀ {m : Nat}, n ≤ m → (∀ i, n ≤ i → i < m → f i = 0) → sm f m = sm f n
  | 0, h, _ => by rw [show n = 0 by omega]
  | m + 1, h, hz => by
    by_cases e : n = m + 1
    · rw [e]
    · rw [sm, sm_more (by omega) (fun i h1 h2 => hz i h1 (by omega)), hz m (by omega) (by omega), Int.add_zero]

theorem sm_emod (f : Nat → Int) (p : Int) : ∀ n : Nat, sm (fun i => f i % p) n % p = sm f n % p
  | 0 => rfl
  | n + 1 => by rw [sm, sm, Int.add_emod, sm_emod f p n, Int.emod_emod_of_dvd _ (Int.dvd_refl p), ← Int.add_emod]

theorem sm_modc {f g : Nat → Int} {p : Int} {n : Nat} (h : ∀ i, i < n → f i % p = g i % p) : sm f n % p = sm g n % p := by
  rw [← sm_emod f, ← sm_emod g, sm_congr h]

theorem sm_mul (k : Int) (f : Nat → Int) : ∀ n : Nat, k * sm f n = sm (fun i => k * f i) n
  | 0 => by simp [sm]
  | n + 1 => by rw [sm, sm, Int.mul_add, sm_mul k f n]

theorem sm_mulr (k : Int) (f : Nat → Int) (n : Nat) : sm f n * k = sm (fun i => f i * k) n := by
  rw [Int.mul_comm, sm_mul]
  exact sm_congr (fun i _ => Int.mul_comm _ _)

theorem sm_add (f g : Nat → Int) : ∀ n : Nat, sm (fun i => f i + g i) n = sm f n + sm g n
  | 0 => rfl
  | n + 1 => by simp only [sm]; rw [sm_add f g n]; omega

theorem sm_swap (f : Nat → Nat → Int) (m : Nat) : ∀ n : Nat, sm (fun i => sm (fun j => f i j) m) n = sm (fun j => sm (fun i => f i j) n) m
  | 0 => by simp only [sm]; exact (sm_zero (fun _ _ => rfl)).symm
  | n + 1 => by simp only [sm]; rw [sm_swap f m n, sm_add]

theorem sm_b {f : Nat → Int} {B : Int} : ∀ {n : Nat}, (∀ i, i < n → 0 ≤ f i ∧ f i ≤ B) → 0 ≤ sm f n ∧ sm f n ≤ n * B
  | 0, _ => by simp [sm]
  | n + 1, h => by
    have h1 := sm_b (n := n) (fun i hi => h i (by omega))
    have h2 := h n (by omega)
    rw [sm]
    have : ((n + 1 : Nat) : Int) * B = n * B + B := by rw [Int.natCast_add, Int.add_mul]; omega
    omega

/-- All but one are 0. -/
theorem sm_one {f : Nat → Int} {j : Nat} : ∀ {n : Nat}, j < n → (∀ i, i < n → i ≠ j → f i = 0) → sm f n = f j
  | 0, h, _ => by omega
  | n + 1, h, hz => by
    rw [sm]
    by_cases e : n = j
    · subst e
      rw [sm_zero (fun i hi => hz i (by omega) (by omega)), Int.zero_add]
    · rw [hz n (by omega) e, Int.add_zero]
      exact sm_one (by omega) (fun i hi hne => hz i (by omega) hne)

theorem modAdd (a b k p : Int) : (a % p + k * (b % p)) % p = (a + k * b) % p := by
  rw [Int.add_emod, Int.emod_emod_of_dvd _ (Int.dvd_refl p), emodR, ← Int.add_emod]

theorem modAddL (a b p : Int) : (a % p + b) % p = (a + b) % p := by
  rw [Int.add_emod, Int.emod_emod_of_dvd _ (Int.dvd_refl p), ← Int.add_emod]

theorem modAddR (a b p : Int) : (a + b % p) % p = (a + b) % p := by
  rw [Int.add_emod, Int.emod_emod_of_dvd _ (Int.dvd_refl p), ← Int.add_emod]

theorem modB (a : Int) {p : Int} (hp : 2 ≤ p) : 0 ≤ a % p ∧ a % p < p := ⟨Int.emod_nonneg _ (by omega), Int.emod_lt_of_pos _ (by omega)⟩

theorem modSelf {a p : Int} (h : 0 ≤ a ∧ a < p) : a % p = a := Int.emod_eq_of_lt h.1 h.2

def sz (p n : Int) : Prop := isP p = true ∧ (1 ≤ n ∧ n ≤ 8)

/-- v has the first n places, and numbers below p. -/
def isVec (p n : Int) (v : Nat → Int) : Prop := ∀ i : Nat, i < 8 → v i < p ∧ (n ≤ i → v i = 0)

def isLin (p n s : Int) (l : Nat → Int) : Prop := ∀ i : Nat, i < 8 → isVec p s (fun x => l (8 * i + x)) ∧ (n ≤ i → ∀ x, x < 8 → l (8 * i + x) = 0)

def isTab (p n : Int) (t : Nat → Int) : Prop := ∀ i : Nat, i < 8 → isLin p n n (fun x => t (64 * i + x)) ∧ (n ≤ i → ∀ x, x < 64 → t (64 * i + x) = 0)

/-- Bytes. -/
def isBy (N : Nat) (v : Nat → Int) : Prop := ∀ i : Nat, i < N → 0 ≤ v i ∧ v i ≤ 255

/-- Numbers from 0 up to p. -/
def isRes (p : Int) (N : Nat) (v : Nat → Int) : Prop := ∀ i : Nat, i < N → 0 ≤ v i ∧ v i < p

theorem isRes.by {p : Int} {N : Nat} {v : Nat → Int} (h : isRes p N v) (hp : p ≤ 31) : isBy N v := fun i hi => by have := h i hi; omega

theorem isVec.res {p n : Int} {v : Nat → Int} (h : isVec p n v) (hb : isBy 8 v) : isRes p 8 v := fun i hi => ⟨(hb i hi).1, (h i hi).1⟩

theorem isLin.res {p n s : Int} {l : Nat → Int} (h : isLin p n s l) (hb : isBy 64 l) : isRes p 64 l := fun i hi => by
  refine ⟨(hb i hi).1, ?_⟩
  have := ((h (i / 8) (by omega)).1 (i % 8) (by omega)).1
  simpa only [show 8 * (i / 8) + i % 8 = i by omega] using this

theorem isTab.res {p n : Int} {t : Nat → Int} (h : isTab p n t) (hb : isBy 512 t) : isRes p 512 t := fun i hi => by
  refine ⟨(hb i hi).1, ?_⟩
  have := (((h (i / 64) (by omega)).1 (i % 64 / 8) (by omega)).1 (i % 8) (by omega)).1
  simpa only [show 64 * (i / 64) + (8 * (i % 64 / 8) + i % 8) = i by omega] using this

/-- v and k times w. -/
def pl (p : Int) (v : Nat → Int) (k : Int) (w : Nat → Int) : Nat → Int := fun x => (v x + k * w x) % p

theorem pl_res {p : Int} (hp : 2 ≤ p) (v : Nat → Int) (k : Int) (w : Nat → Int) (N : Nat) : isRes p N (pl p v k w) := fun i _ => modB _ hp

theorem pl_zero {p : Int} {v : Nat → Int} (w : Nat → Int) {N : Nat} (hv : isRes p N v) {i : Nat} (hi : i < N) : pl p v 0 w i = v i := by
  unfold pl; rw [Int.zero_mul, Int.add_zero]; exact modSelf (hv i hi)

/-- The basis element i. -/
def bas (i : Nat) : Nat → Int := fun x => if x = i then 1 else 0

/-- What a linear map makes of a vector. -/
def app (p : Int) (l v : Nat → Int) : Nat → Int := fun x => sm (fun i => v i * l (8 * i + x)) 8 % p

/-- f for the first i places, and then g. -/
def prt (f g : Nat → Int) (i : Nat) : Nat → Int := fun q => if q < i then f q else g q

theorem prt_at (f g : Nat → Int) (i : Nat) : prt f g i i = g i := by simp [prt]

theorem prt_put (f g : Nat → Int) (i q : Nat) : put1 (bys (prt f g i)) i (.int .u8 (f i)) q = bys (prt f g (i + 1)) q := by
  unfold put1 bys prt
  by_cases e : q = i
  · subst e; simp
  · rw [if_neg e]
    by_cases h : q < i
    · rw [if_pos h, if_pos (by omega)]
    · rw [if_neg h, if_neg (by omega)]

theorem prt_all (f g : Nat → Int) (n q : Nat) (h : q < n) : prt f g n q = f q := by simp [prt, h]

theorem prt_zero (f g : Nat → Int) : prt f g 0 = g := by funext q; simp [prt]

theorem splice_zero (c d : Nat → SV) (o : Nat) : splice c o 0 d = c := by
  funext q; unfold splice; rw [if_neg (by omega)]

theorem splice_put (c d : Nat → SV) (o i : Nat) : put1 (splice c o i d) (o + i) (d i) = splice c o (i + 1) d := by
  funext q
  unfold put1 splice
  by_cases e : q = o + i
  · subst e; rw [if_pos rfl, if_pos (by omega)]; congr 1; omega
  · rw [if_neg e]
    by_cases h : o ≤ q ∧ q < o + i
    · rw [if_pos h, if_pos (by omega)]
    · rw [if_neg h, if_neg (by omega)]

/-- What a linear map makes of the first m entries. -/
def apk (p : Int) (l v : Nat → Int) (m : Nat) : Nat → Int := fun x => sm (fun i => v i * l (8 * i + x)) m % p

theorem apk_zero (p : Int) (l v : Nat → Int) : apk p l v 0 = fun _ => 0 := by
  funext x; simp [apk, sm]

theorem apk_step (p : Int) (l v : Nat → Int) (i : Nat) : pl p (apk p l v i) (v i) (fun x => l (8 * i + x)) = apk p l v (i + 1) := by
  funext x; unfold pl apk; rw [modAddL]; rfl

theorem apk_res {p : Int} (hp : 2 ≤ p) (l v : Nat → Int) (i N : Nat) : isRes p N (apk p l v i) := fun _ _ => modB _ hp

theorem apk_same {p : Int} {l v : Nat → Int} {i : Nat} (h : v i = 0) : apk p l v (i + 1) = apk p l v i := by
  funext x; unfold apk; rw [sm, h, Int.zero_mul, Int.add_zero]

theorem isRes_zero {p : Int} (hp : 2 ≤ p) (N : Nat) : isRes p N (fun _ => 0) := fun _ _ => ⟨Int.le_refl 0, show (0 : Int) < p by omega⟩

theorem splice_all (c : Nat → SV) (d : Nat → SV) (n q : Nat) (h : q < n) : splice c 0 n d q = d q := by
  unfold splice; rw [if_pos (by omega), Nat.sub_zero]

theorem getlt {H : Hp} {n b : Nat} {K : Blk} (hf : ∀ b, n ≤ b → H.get b = none) (hb : H.get b = some K) : b < n := by
  rcases Nat.lt_or_ge b n with h | h
  · exact h
  · rw [hf b h] at hb; cases hb

/-- The product of two vectors by the table m: rows up to i, of row i the places up to j. -/
def pk (p : Int) (m v w : Nat → Int) (n i j : Nat) : Nat → Int := fun x => (sm (fun i => sm (fun j => v i * w j * m (64 * i + 8 * j + x)) n) i + sm (fun j => v i * w j * m (64 * i + 8 * j + x)) j) % p

/-- The product of two vectors. -/
def pr (p : Int) (m v w : Nat → Int) (n : Nat) : Nat → Int := pk p m v w n n 0

theorem pk_zero (p : Int) (m v w : Nat → Int) (n : Nat) : pk p m v w n 0 0 = fun _ => 0 := by funext x; simp [pk, sm]

theorem pk_row (p : Int) (m v w : Nat → Int) (n i : Nat) : pk p m v w n i n = pk p m v w n (i + 1) 0 := by funext x; simp [pk, sm]

theorem pk_skip {p : Int} {m v w : Nat → Int} {n i : Nat} (h : v i = 0) : pk p m v w n (i + 1) 0 = pk p m v w n i 0 := by
  funext x
  unfold pk
  congr 1
  simp only [sm, h]
  rw [sm_zero (n := n) (fun j _ => by rw [Int.zero_mul, Int.zero_mul])]
  omega

theorem pk_step (p : Int) (m v w : Nat → Int) (n i j : Nat) : pl p (pk p m v w n i j) (v i * w j) (fun x => m (64 * i + 8 * j + x)) = pk p m v w n i (j + 1) := by
  funext x; unfold pl pk; rw [modAddL, sm, Int.add_assoc]

theorem pk_res {p : Int} (hp : 2 ≤ p) (m v w : Nat → Int) (n i j N : Nat) : isRes p N (pk p m v w n i j) := fun _ _ => modB _ hp

theorem pk_whole (p : Int) (m v w : Nat → Int) (n i : Nat) : pl p (pk p m v w n i 0) (v i) (apk p (fun q => m (64 * i + q)) w n) = pk p m v w n (i + 1) 0 := by
  funext x
  unfold pl pk apk
  rw [modAdd]
  simp only [sm, Int.add_zero]
  rw [sm_mul]
  congr 2
  exact sm_congr (fun j _ => by rw [Int.mul_assoc, Nat.add_assoc])

theorem pr_res {p : Int} (hp : 2 ≤ p) (m v w : Nat → Int) (n N : Nat) : isRes p N (pr p m v w n) := pk_res hp _ _ _ _ _ _ _

/-- An algebra or a coalgebra has the form of one: the vector u, the table m. -/
def shp (p n : Int) (u m : Nat → Int) : Prop := sz p n ∧ isVec p n u ∧ isTab p n m

/-- The cells of a Hopf table: prime, size, unit, products, counit, coproducts, antipode. -/
structure HT where
  p : Int
  n : Int
  u : Nat → Int
  m : Nat → Int
  e : Nat → Int
  c : Nat → Int
  s : Nat → Int

/-- A row of cells holds the table. -/
structure HT.At (h : HT) (K : Nat → SV) : Prop where
  p : K 0 = .int .i64 h.p
  n : K 1 = .int .i64 h.n
  u : ∀ q, q < 8 → K (2 + q) = .int .u8 (h.u q)
  m : ∀ q, q < 512 → K (10 + q) = .int .u8 (h.m q)
  e : ∀ q, q < 8 → K (522 + q) = .int .u8 (h.e q)
  c : ∀ q, q < 512 → K (530 + q) = .int .u8 (h.c q)
  s : ∀ q, q < 64 → K (1042 + q) = .int .u8 (h.s q)

/-- Its small cells are bytes. -/
structure HT.By (h : HT) : Prop where
  u : isBy 8 h.u
  m : isBy 512 h.m
  e : isBy 8 h.e
  c : isBy 512 h.c
  s : isBy 64 h.s

end Go.V

namespace Go.Proofs.YtideblodkkgodaaGreat

open Go.V

set_option linter.unusedSimpArgs false

set_option linter.unusedVariables false

set_option maxHeartbeats 4000000

/-- What the parts of a Hopf table are called with: a new block that holds an algebra or a coalgebra. -/
def newAlg (t : Nat) (p n' : Int) (u m : Nat → Int) (n : Nat) (H : Hp) (r : AV) (H' : Hp) (n2 : Nat) : Prop :=
  ∃ b c, r = ptr b 0 ∧ n ≤ b ∧ b < n2 ∧ H' = (b, ⟨522, c, t⟩) :: H ∧ c 0 = .int .i64 p ∧ c 1 = .int .i64 n' ∧ (∀ q, q < 8 → c (2 + q) = .int .u8 (u q)) ∧ (∀ q, q < 512 → c (10 + q) = .int .u8 (m q))

end Go.Proofs.YtideblodkkgodaaGreat

namespace Go.V

set_option linter.unusedSimpArgs false

set_option linter.unusedVariables false

set_option maxHeartbeats 4000000

theorem Ext.new {H : Hp} {b : Nat} {k : Blk} (h : H.get b = none) : Ext H ((b, k) :: H) := fun b' k' hb' => by
  have hne : b ≠ b' := by intro e; subst e; rw [h] at hb'; cases hb'
  rw [Hp.get_ne _ _ hne]; exact hb'

/-- A Hopf table is shaped. -/
def shH (h : HT) : Prop := shp h.p h.n h.u h.m ∧ shp h.p h.n h.e h.c ∧ isLin h.p h.n h.n h.s

theorem sm_0 (f : Nat → Int) : sm f 0 = 0 := rfl

theorem sm_append (f : Nat → Int) (a : Nat) : ∀ b : Nat, sm f (a + b) = sm f a + sm (fun i => f (a + i)) b
  | 0 => by simp [sm]
  | b + 1 => by rw [← Nat.add_assoc, sm, sm, sm_append f a b, Int.add_assoc]

theorem sm_flat (f : Nat → Int) (k : Nat) : ∀ n : Nat, sm f (k * n) = sm (fun i => sm (fun j => f (k * i + j)) k) n
  | 0 => by simp [sm]
  | n + 1 => by rw [Nat.mul_add, Nat.mul_one, sm_append, sm_flat f k n, sm]

/-- The first x rows of B, the other ones of A. -/
def rowsTo (A B : Nat → Int) (x : Nat) : Nat → Int := fun q => if q < 8 * x then B q else A q

theorem rowsTo_zero (A B : Nat → Int) : rowsTo A B 0 = A := by funext q; simp [rowsTo]

theorem rowsTo_all {A B : Nat → Int} {n N : Nat} (h : ∀ q, 8 * n ≤ q → q < N → A q = B q) {q : Nat} (hq : q < N) : rowsTo A B n q = B q := by
  unfold rowsTo; split
  · rfl
  · exact h q (by omega) hq

theorem rowsTo_step {A B : Nat → Int} {x : Nat} {r : Nat → Int} (h : ∀ y, y < 8 → r y = B (8 * x + y)) (q : Nat) : splice (bys (rowsTo A B x)) (8 * x) 8 (bys r) q = bys (rowsTo A B (x + 1)) q := by
  unfold splice bys rowsTo
  by_cases h1 : 8 * x ≤ q ∧ q < 8 * x + 8
  · rw [if_pos h1, if_pos (by omega), h (q - 8 * x) (by omega), show 8 * x + (q - 8 * x) = q by omega]
  · rw [if_neg h1]
    by_cases h2 : q < 8 * x
    · rw [if_pos h2, if_pos (by omega)]
    · rw [if_neg h2, if_neg (by omega)]

/-- The entries of a table outside its size are 0. -/
def tz (n : Nat) (m : Nat → Int) : Prop := ∀ i j x : Nat, i < 8 → j < 8 → x < 8 → (n ≤ i ∨ n ≤ j ∨ n ≤ x) → m (64 * i + 8 * j + x) = 0

def lz (n : Nat) (l : Nat → Int) : Prop := ∀ i x : Nat, i < 8 → x < 8 → (n ≤ i ∨ n ≤ x) → l (8 * i + x) = 0

def vz (n : Nat) (v : Nat → Int) : Prop := ∀ x : Nat, x < 8 → n ≤ x → v x = 0

theorem isVec.vz {p : Int} {n : Nat} {v : Nat → Int} (h : isVec p n v) : vz n v := fun x hx hn => (h x hx).2 (by omega)

theorem isLin.lz {p : Int} {n : Nat} {l : Nat → Int} (h : isLin p n n l) : lz n l := fun i x hi hx hn => by
  by_cases e : n ≤ i
  · exact (h i hi).2 (by omega) x hx
  · exact ((h i hi).1 x hx).2 (by omega)

theorem isTab.tz {p : Int} {n : Nat} {t : Nat → Int} (h : isTab p n t) : tz n t := fun i j x hi hj hx hn => by
  rw [Nat.add_assoc]
  by_cases e : n ≤ i
  · exact (h i hi).2 (by omega) (8 * j + x) (by omega)
  · exact (h i hi).1.lz j x hj hx (by omega)

theorem lz.at {n : Nat} {l : Nat → Int} (h : lz n l) {q : Nat} (hq : q < 64) (hn : 8 * n ≤ q) : l q = 0 := by
  have := h (q / 8) (q % 8) (by omega) (by omega) (by omega)
  rwa [show 8 * (q / 8) + q % 8 = q by omega] at this

theorem tz.at {n : Nat} {m : Nat → Int} (h : tz n m) {i q : Nat} (hi : i < 8) (hq : q < 64) (hn : n ≤ i ∨ 8 * n ≤ q) : m (64 * i + q) = 0 := by
  have := h i (q / 8) (q % 8) hi (by omega) (by omega) (by omega)
  rwa [show 64 * i + 8 * (q / 8) + q % 8 = 64 * i + q by omega] at this

/-- The coproduct of the first i entries. -/
def cps (p : Int) (c v : Nat → Int) (i : Nat) : Nat → Int := fun q => sm (fun i => v i * c (64 * i + q)) i % p

theorem cps_zero (p : Int) (c v : Nat → Int) : cps p c v 0 = fun _ => 0 := by funext q; simp [cps, sm]

theorem cps_res {p : Int} (hp : 2 ≤ p) (c v : Nat → Int) (i N : Nat) : isRes p N (cps p c v i) := fun _ _ => modB _ hp

theorem cps_same {p : Int} {c v : Nat → Int} {i : Nat} (h : v i = 0) : cps p c v (i + 1) = cps p c v i := by
  funext q; unfold cps; rw [sm, h, Int.zero_mul, Int.add_zero]

theorem cps_row (p : Int) (c v : Nat → Int) (i j y : Nat) : pl p (fun y => cps p c v i (8 * j + y)) (v i) (fun y => c (64 * i + 8 * j + y)) y = cps p c v (i + 1) (8 * j + y) := by
  unfold pl cps; rw [modAddL, sm]; simp only [Nat.add_assoc]

theorem cps_out {p : Int} {c v : Nat → Int} {n i : Nat} (hc : tz n c) (hi : i < 8) {q : Nat} (hn : 8 * n ≤ q) (hq : q < 64) : cps p c v i q = cps p c v (i + 1) q := by
  unfold cps; rw [sm, hc.at hi hq (.inr hn), Int.mul_zero, Int.add_zero]

theorem cps_end {p : Int} {c v : Nat → Int} {n : Nat} (hc : tz n c) (hn : n ≤ 8) {q : Nat} (hq : q < 64) : cps p c v n q = cps p c v 8 q := by
  unfold cps; rw [sm_more hn (fun i h1 h2 => by rw [hc.at h2 hq (.inl h1), Int.mul_zero])]

/-- What the entry t of a and the entry s of b give for the entry q. -/
def tw (m : Nat → Int) (t s q : Nat) : Int := m (64 * (t / 8) + 8 * (s / 8) + q / 8) * m (64 * (t % 8) + 8 * (s % 8) + q % 8)

/-- The product of two tables: of a the entries up to t, of the entry t the entries of b up to s. -/
def tns (p : Int) (m a b : Nat → Int) (t s : Nat) : Nat → Int := fun q => (sm (fun t => a t * sm (fun s => b s * tw m t s q) 64) t + a t * sm (fun s => b s * tw m t s q) s) % p

def ten (p : Int) (m a b : Nat → Int) : Nat → Int := tns p m a b 64 0

theorem tns_zero (p : Int) (m a b : Nat → Int) : tns p m a b 0 0 = fun _ => 0 := by funext q; simp [tns, sm]

theorem tns_next (p : Int) (m a b : Nat → Int) (t : Nat) : tns p m a b t 64 = tns p m a b (t + 1) 0 := by funext q; simp [tns, sm]

theorem tns_skip {p : Int} {m a b : Nat → Int} {t : Nat} (h : a t = 0) : tns p m a b (t + 1) 0 = tns p m a b t 0 := by funext q; simp [tns, sm, h]

theorem tns_same {p : Int} {m a b : Nat → Int} {t s : Nat} (h : b s = 0) : tns p m a b t (s + 1) = tns p m a b t s := by funext q; simp [tns, sm, h]

theorem tns_res {p : Int} (hp : 2 ≤ p) (m a b : Nat → Int) (t s N : Nat) : isRes p N (tns p m a b t s) := fun _ _ => modB _ hp

theorem tns_row (p : Int) (m a b : Nat → Int) (t s i y : Nat) (hy : y < 8) :
    pl p (fun y => tns p m a b t s (8 * i + y)) (a t * b s % p * m (64 * (t / 8) + 8 * (s / 8) + i)) (fun y => m (64 * (t % 8) + 8 * (s % 8) + y)) y = tns p m a b t (s + 1) (8 * i + y) := by
  unfold pl tns
  rw [modAddL, Int.mul_assoc, ← modAddR _ (_ % p * _), Int.mul_emod (_ % p), Int.emod_emod_of_dvd _ (Int.dvd_refl p), ← Int.mul_emod, modAddR]
  congr 1
  rw [sm, Int.mul_add, ← Int.add_assoc]
  congr 1
  simp only [tw, show (8 * i + y) / 8 = i by omega, show (8 * i + y) % 8 = y by omega]
  rw [Int.mul_assoc]

/-- The product of two tables, row by row. -/
def twr (p : Int) (m f g : Nat → Int) (n : Nat) (j l q : Nat) : Int := m (64 * j + 8 * l + q / 8) * pr p m (fun x => f (8 * j + x)) (fun x => g (8 * l + x)) n (q % 8)

def tsr (p : Int) (m f g : Nat → Int) (n : Nat) (j l : Nat) : Nat → Int := fun q => (sm (fun j => sm (fun l => twr p m f g n j l q) n) j + sm (fun l => twr p m f g n j l q) l) % p

theorem tsr_zero (p : Int) (m f g : Nat → Int) (n : Nat) : tsr p m f g n 0 0 = fun _ => 0 := by funext q; simp [tsr, sm]

theorem tsr_next (p : Int) (m f g : Nat → Int) (n j : Nat) : tsr p m f g n j n = tsr p m f g n (j + 1) 0 := by funext q; simp [tsr, sm]

theorem tsr_res {p : Int} (hp : 2 ≤ p) (m f g : Nat → Int) (n j l N : Nat) : isRes p N (tsr p m f g n j l) := fun _ _ => modB _ hp

theorem tsr_same {p : Int} {m f g : Nat → Int} {n j l q : Nat} (h : twr p m f g n j l q = 0) : tsr p m f g n j (l + 1) q = tsr p m f g n j l q := by
  unfold tsr; rw [sm, h, Int.add_zero]

theorem twr_zero {p : Int} {m f g : Nat → Int} {n j l : Nat} (h : ∀ y, y < 8 → pr p m (fun x => f (8 * j + x)) (fun x => g (8 * l + x)) n y = 0) (q : Nat) : twr p m f g n j l q = 0 := by
  unfold twr; rw [h _ (by omega), Int.mul_zero]

theorem tsr_row (p : Int) (m f g : Nat → Int) (n j l x y : Nat) (hy : y < 8) :
    pl p (fun y => tsr p m f g n j l (8 * x + y)) (m (64 * j + 8 * l + x)) (pr p m (fun x => f (8 * j + x)) (fun x => g (8 * l + x)) n) y = tsr p m f g n j (l + 1) (8 * x + y) := by
  unfold pl tsr
  rw [modAddL]
  congr 1
  rw [sm, ← Int.add_assoc]
  congr 1
  simp only [twr, show (8 * x + y) / 8 = x by omega, show (8 * x + y) % 8 = y by omega]

theorem tsr_out {p : Int} {m f g : Nat → Int} {n j l q : Nat} (hm : tz n m) (hj : j < 8) (hl : l < 8) (hn : 8 * n ≤ q) (hq : q < 64) : tsr p m f g n j l q = tsr p m f g n j (l + 1) q := by
  refine (tsr_same ?_).symm
  unfold twr; rw [hm j l (q / 8) hj hl (by omega) (by omega), Int.zero_mul]

theorem tsr_end {p : Int} {m f g : Nat → Int} {n : Nat} (hm : tz n m) (hn : n ≤ 8) {q : Nat} (hq : q < 64) : tsr p m f g n n 0 q = ten p m f g q := by
  have e1 : ∀ j l, j < 8 → l < 8 → twr p m f g n j l q % p
      = (m (64 * j + 8 * l + q / 8) * sm (fun k => sm (fun i => f (8 * j + k) * g (8 * l + i) * m (64 * k + 8 * i + q % 8)) 8) 8) % p := fun j l hj hl => by
    unfold twr pr pk
    rw [Int.mul_emod, Int.emod_emod_of_dvd _ (Int.dvd_refl p), ← Int.mul_emod]
    congr 2
    simp only [sm_0, Int.add_zero]
    rw [← sm_more hn (fun k h1 h2 => ?_)]
    · refine sm_congr fun k hk => ?_
      rw [← sm_more hn (fun i h1 h2 => ?_)]
      rw [hm k i (q % 8) hk h2 (by omega) (by omega), Int.mul_zero]
    · exact sm_zero fun i hi => by rw [hm k i (q % 8) h2 (by omega) (by omega) (by omega), Int.mul_zero]
  unfold tsr ten tns
  simp only [sm_0, Int.mul_zero, Int.add_zero]
  have e2 : sm (fun j => sm (fun l => twr p m f g n j l q) n) n = sm (fun j => sm (fun l => twr p m f g n j l q) 8) 8 := by
    rw [← sm_more hn (fun j h1 h2 => ?_)]
    · refine sm_congr fun j hj => ?_
      rw [← sm_more hn (fun l h1 h2 => ?_)]
      unfold twr; rw [hm j l (q / 8) hj h2 (by omega) (by omega), Int.zero_mul]
    · exact sm_zero fun l hl => by unfold twr; rw [hm j l (q / 8) h2 (by omega) (by omega) (by omega), Int.zero_mul]
  rw [e2]
  have e3 : sm (fun t => f t * sm (fun s => g s * tw m t s q) 64) 64 = sm (fun j => sm (fun k => f (8 * j + k) * sm (fun l => sm (fun i => g (8 * l + i) * (m (64 * j + 8 * l + q / 8) * m (64 * k + 8 * i + q % 8))) 8) 8) 8) 8 := by
    rw [show (64 : Nat) = 8 * 8 by rfl, sm_flat]
    refine sm_congr fun j hj => sm_congr fun k hk => ?_
    rw [sm_flat]
    congr 1
    refine sm_congr fun l hl => sm_congr fun i hi => ?_
    simp only [tw, show (8 * j + k) / 8 = j by omega, show (8 * j + k) % 8 = k by omega, show (8 * l + i) / 8 = l by omega, show (8 * l + i) % 8 = i by omega]
  rw [e3]
  refine sm_modc fun j hj => ?_
  rw [sm_modc (fun l hl => e1 j l hj hl)]
  congr 1
  have e4 : ∀ k, f (8 * j + k) * sm (fun l => sm (fun i => g (8 * l + i) * (m (64 * j + 8 * l + q / 8) * m (64 * k + 8 * i + q % 8))) 8) 8
      = sm (fun l => m (64 * j + 8 * l + q / 8) * sm (fun i => f (8 * j + k) * g (8 * l + i) * m (64 * k + 8 * i + q % 8)) 8) 8 := fun k => by
    rw [sm_mul]
    refine sm_congr fun l hl => ?_
    rw [sm_mul, sm_mul]
    refine sm_congr fun i hi => ?_
    simp only [Int.mul_assoc, Int.mul_left_comm]
  rw [sm_congr (fun k _ => e4 k), sm_swap]
  refine sm_congr fun l hl => ?_
  rw [sm_mul]

def outer (p : Int) (v w : Nat → Int) : Nat → Int := fun q => v (q / 8) * w (q % 8) % p

theorem outer_row (p : Int) (v w : Nat → Int) (j y : Nat) (hy : y < 8) : pl p (fun _ => 0) (v j) w y = outer p v w (8 * j + y) := by
  unfold pl outer; rw [Int.zero_add, show (8 * j + y) / 8 = j by omega, show (8 * j + y) % 8 = y by omega]

def dotk (p : Int) (v w : Nat → Int) (k : Nat) : Int := sm (fun i => v i * w i) k % p

theorem dotk_end {p : Int} {v w : Nat → Int} {n : Nat} (hn : n ≤ 8) (h : vz n v ∨ vz n w) : dotk p v w n = dotk p v w 8 := by
  unfold dotk
  rw [sm_more hn (fun i h1 h2 => by
    rcases h with h | h
    · rw [h i h2 h1, Int.zero_mul]
    · rw [h i h2 h1, Int.mul_zero])]

theorem dotk_comm (p : Int) (v w : Nat → Int) (k : Nat) : dotk p v w k = dotk p w v k := by
  unfold dotk; rw [sm_congr fun i _ => Int.mul_comm _ _]

/-- The products with basis elements are associative. -/
def assoc (p : Int) (n : Nat) (m : Nat → Int) : Prop := ∀ i j k : Nat, i < n → j < n → k < n → ∀ q, q < 8 →
  pr p m (fun x => m (64 * i + 8 * j + x)) (bas k) n q = pr p m (bas i) (fun x => m (64 * j + 8 * k + x)) n q

def units (p : Int) (n : Nat) (u m : Nat → Int) : Prop := ∀ i : Nat, i < n → (∀ q, q < 8 → pr p m u (bas i) n q = bas i q) ∧ (∀ q, q < 8 → pr p m (bas i) u n q = bas i q)

def isAlg (p : Int) (n : Int) (u m : Nat → Int) : Prop := shp p n u m ∧ units p n.toNat u m ∧ assoc p n.toNat m

def cosum1 (p : Int) (c : Nat → Int) (i j k l : Nat) (n : Nat) : Int := sm (fun a => c (64 * i + 8 * a + l) * c (64 * a + 8 * j + k)) n % p

def cosum2 (p : Int) (c : Nat → Int) (i j k l : Nat) (n : Nat) : Int := sm (fun a => c (64 * i + 8 * j + a) * c (64 * a + 8 * k + l)) n % p

def coassoc (p : Int) (n : Nat) (c : Nat → Int) : Prop := ∀ t : Nat, t < n * n * n * n →
  cosum1 p c (t / (n * n * n)) (t / (n * n) % n) (t / n % n) (t % n) n = cosum2 p c (t / (n * n * n)) (t / (n * n) % n) (t / n % n) (t % n) n

/-- The sum of e[j] c[i][j] up to k. -/
def coL (p : Int) (e c : Nat → Int) (i k : Nat) : Nat → Int := fun x => sm (fun j => e j * c (64 * i + 8 * j + x)) k % p

def coR (p : Int) (e c : Nat → Int) (i k : Nat) : Nat → Int := fun x => if x < k then dotk p e (fun y => c (64 * i + 8 * x + y)) 8 else 0

theorem coL_zero (p : Int) (e c : Nat → Int) (i : Nat) : coL p e c i 0 = fun _ => 0 := by funext x; simp [coL, sm]

theorem coL_step (p : Int) (e c : Nat → Int) (i k : Nat) : pl p (coL p e c i k) (e k) (fun x => c (64 * i + 8 * k + x)) = coL p e c i (k + 1) := by
  funext x; unfold pl coL; rw [modAddL, sm]

theorem coL_res {p : Int} (hp : 2 ≤ p) (e c : Nat → Int) (i k N : Nat) : isRes p N (coL p e c i k) := fun _ _ => modB _ hp

theorem coR_zero (p : Int) (e c : Nat → Int) (i : Nat) : coR p e c i 0 = fun _ => 0 := by funext x; simp [coR]

theorem coR_step (p : Int) (e c : Nat → Int) (i k x : Nat) : (if x = k then dotk p e (fun y => c (64 * i + 8 * k + y)) 8 else coR p e c i k x) = coR p e c i (k + 1) x := by
  unfold coR
  by_cases h : x = k
  · subst h; rw [if_pos rfl, if_pos (by omega)]
  · rw [if_neg h]
    by_cases h2 : x < k
    · rw [if_pos h2, if_pos (by omega)]
    · rw [if_neg h2, if_neg (by omega)]

def counits (p : Int) (n : Nat) (e c : Nat → Int) : Prop := ∀ i : Nat, i < n → (∀ q, q < 8 → coL p e c i n q = bas i q) ∧ (∀ q, q < 8 → coR p e c i n q = bas i q)

def isCoalg (p : Int) (n : Int) (e c : Nat → Int) : Prop := shp p n e c ∧ counits p n.toNat e c ∧ coassoc p n.toNat c

/-- The sum of the products of the entries of the row i of c up to t with vectors. -/
def fold (p : Int) (c : Nat → Int) (i : Nat) (g : Nat → Nat → Int) (t : Nat) : Nat → Int := fun x => sm (fun t => c (64 * i + t) * g t x) t % p

theorem fold_zero (p : Int) (c : Nat → Int) (i : Nat) (g : Nat → Nat → Int) : fold p c i g 0 = fun _ => 0 := by funext x; simp [fold, sm]

theorem fold_step (p : Int) (c : Nat → Int) (i : Nat) (g : Nat → Nat → Int) (t : Nat) : pl p (fold p c i g t) (c (64 * i + t)) (g t) = fold p c i g (t + 1) := by
  funext x; unfold pl fold; rw [modAddL, sm]

theorem fold_skip {p : Int} {c : Nat → Int} {i : Nat} {g : Nat → Nat → Int} {t : Nat} (h : c (64 * i + t) = 0) : fold p c i g (t + 1) = fold p c i g t := by
  funext x; unfold fold; rw [sm, h, Int.zero_mul, Int.add_zero]

theorem fold_res {p : Int} (hp : 2 ≤ p) (c : Nat → Int) (i : Nat) (g : Nat → Nat → Int) (t N : Nat) : isRes p N (fold p c i g t) := fun _ _ => modB _ hp

theorem fold_more {p : Int} {c : Nat → Int} {i : Nat} {g : Nat → Nat → Int} {t t' : Nat} (h : t ≤ t') (hz : ∀ s, t ≤ s → s < t' → c (64 * i + s) = 0) : fold p c i g t' = fold p c i g t := by
  funext x; unfold fold; rw [sm_more h fun s h1 h2 => by rw [hz s h1 h2, Int.zero_mul]]

theorem fold_row {p : Int} {c : Nat → Int} {i n j : Nat} {g : Nat → Nat → Int} (hc : tz n c) (hi : i < 8) (hn : n ≤ 8) (hj : j < 8) : fold p c i g (8 * j + n) = fold p c i g (8 * (j + 1) + 0) :=
  (fold_more (by omega) fun s h1 h2 => by
    have := hc i (s / 8) (s % 8) hi (by omega) (by omega) (by omega)
    rwa [Nat.add_assoc, show 8 * (s / 8) + s % 8 = s by omega] at this).symm

theorem fold_end {p : Int} {c : Nat → Int} {i n : Nat} {g : Nat → Nat → Int} (hc : tz n c) (hi : i < 8) (hn : n ≤ 8) : fold p c i g (8 * n + 0) = fold p c i g 64 :=
  (fold_more (by omega) fun s h1 h2 => hc.at hi h2 (.inr (by omega))).symm

/-- The vectors of axiom 6, and of axiom 7. -/
def g6 (p : Int) (m s : Nat → Int) (n : Nat) (t : Nat) : Nat → Int := pr p m (fun y => s (8 * (t / 8) + y)) (bas (t % 8)) n

def g7 (p : Int) (m s : Nat → Int) (n : Nat) (t : Nat) : Nat → Int := pr p m (bas (t / 8)) (fun y => s (8 * (t % 8) + y)) n

theorem g6_res {p : Int} (hp : 2 ≤ p) (m s : Nat → Int) (n t N : Nat) : isRes p N (g6 p m s n t) := pr_res hp _ _ _ _ _

theorem g7_res {p : Int} (hp : 2 ≤ p) (m s : Nat → Int) (n t N : Nat) : isRes p N (g7 p m s n t) := pr_res hp _ _ _ _ _

def HT.N (h : HT) : Nat := h.n.toNat

def ax3 (h : HT) : Prop := ∀ i j : Nat, i < h.N → j < h.N → ∀ q, q < 64 →
  cps h.p h.c (fun x => h.m (64 * i + 8 * j + x)) 8 q = ten h.p h.m (fun q => h.c (64 * i + q)) (fun q => h.c (64 * j + q)) q

def ax4 (h : HT) : Prop := ∀ q, q < 64 → cps h.p h.c h.u 8 q = outer h.p h.u h.u q

def ax5 (h : HT) : Prop := (∀ i j : Nat, i < h.N → j < h.N → dotk h.p h.e (fun x => h.m (64 * i + 8 * j + x)) 8 = h.e i * h.e j % h.p) ∧ dotk h.p h.e h.u 8 = 1

def ax6 (h : HT) : Prop := ∀ i : Nat, i < h.N → ∀ q, q < 8 → fold h.p h.c i (g6 h.p h.m h.s h.N) 64 q = pl h.p (fun _ => 0) (h.e i) h.u q

def ax7 (h : HT) : Prop := ∀ i : Nat, i < h.N → ∀ q, q < 8 → fold h.p h.c i (g7 h.p h.m h.s h.N) 64 q = pl h.p (fun _ => 0) (h.e i) h.u q

def ax (h : HT) : Nat → Prop
  | 0 => isAlg h.p h.n h.u h.m
  | 1 => isCoalg h.p h.n h.e h.c
  | 2 => ax3 h
  | 3 => ax4 h
  | 4 => ax5 h
  | 5 => ax6 h
  | _ => ax7 h

/-- One more than the first number from k on, among the next many, for which A does not hold, or 0. -/
noncomputable def firstNot (A : Nat → Prop) (k : Nat) : Nat → Int
  | 0 => 0
  | j + 1 => if tb (A k) = true then firstNot A (k + 1) j else (k : Int) + 1

theorem firstNot_go {A : Nat → Prop} {k j : Nat} (h : A k) : firstNot A k (j + 1) = firstNot A (k + 1) j := by rw [firstNot, if_pos (tb_true h)]

theorem firstNot_end {A : Nat → Prop} {k j : Nat} (h : ¬A k) : firstNot A k (j + 1) = (k : Int) + 1 := by rw [firstNot, tb_false h, if_neg (by simp)]

def isHopf (h : HT) : Prop := shH h ∧ firstNot (ax h) 0 7 = 0

theorem bas_by (k N : Nat) : isBy N (bas k) := fun i _ => by unfold bas; split <;> omega

theorem isAlg_nat {p : Int} {a : Nat} {u m : Nat → Int} : isAlg p a u m ↔ shp p a u m ∧ units p a u m ∧ assoc p a m := Iff.rfl

theorem isCoalg_nat {p : Int} {a : Nat} {e c : Nat → Int} : isCoalg p a e c ↔ shp p a e c ∧ counits p a e c ∧ coassoc p a c := Iff.rfl

theorem dotk_res {p : Int} (hp : 2 ≤ p) (v w : Nat → Int) (k : Nat) : 0 ≤ dotk p v w k ∧ dotk p v w k < p := modB _ hp

theorem pow4 (a : Nat) (h1 : 1 ≤ a) (ha : a ≤ 8) : (1 ≤ (a : Int) * a ∧ (a : Int) * a ≤ 64) ∧ (1 ≤ (a : Int) * a * a ∧ (a : Int) * a * a ≤ 512) ∧ (1 ≤ (a : Int) * a * a * a ∧ (a : Int) * a * a * a ≤ 4096) := by
  have : a = 1 ∨ a = 2 ∨ a = 3 ∨ a = 4 ∨ a = 5 ∨ a = 6 ∨ a = 7 ∨ a = 8 := by omega
  rcases this with rfl | rfl | rfl | rfl | rfl | rfl | rfl | rfl <;> decide

theorem idx4 (a t : Nat) (h1 : 1 ≤ a) (ht : t < a * a * a * a) : t / (a * a * a) < a ∧ t / (a * a) % a < a ∧ t / a % a < a ∧ t % a < a :=
  ⟨Nat.div_lt_of_lt_mul ht, Nat.mod_lt _ h1, Nat.mod_lt _ h1, Nat.mod_lt _ h1⟩

/-- A shaped table of size a. -/
structure HS (h : HT) (a : Nat) : Prop where
  hp : 2 ≤ h.p ∧ h.p ≤ 31
  hn : h.n = a
  ha1 : 1 ≤ a
  ha : a ≤ 8
  um : vz a h.u
  mm : tz a h.m
  em : vz a h.e
  cm : tz a h.c
  sm : lz a h.s

theorem shH.hs {h : HT} (q : shH h) : ∃ a, HS h a := by
  obtain ⟨⟨⟨q1, q2⟩, q3, q4⟩, ⟨_, q5, q6⟩, q7⟩ := q
  obtain ⟨a, ha⟩ := Int.eq_ofNat_of_zero_le (show 0 ≤ h.n by omega)
  rw [ha] at q2 q3 q4 q5 q6 q7
  exact ⟨a, isP_le q1, ha, by omega, by omega, q3.vz, q4.tz, q5.vz, q6.tz, q7.lz⟩

theorem HS.N {h : HT} {a : Nat} (q : HS h a) : h.N = a := by unfold HT.N; rw [q.hn]; rfl

theorem rowsTo_keep {A B : Nat → Int} {x : Nat} (h : ∀ y, y < 8 → A (8 * x + y) = B (8 * x + y)) : rowsTo A B x = rowsTo A B (x + 1) := by
  funext q
  unfold rowsTo
  by_cases h1 : q < 8 * x
  · rw [if_pos h1, if_pos (by omega)]
  · rw [if_neg h1]
    by_cases h2 : q < 8 * (x + 1)
    · rw [if_pos h2]
      have := h (q - 8 * x) (by omega)
      rwa [show 8 * x + (q - 8 * x) = q by omega] at this
    · rw [if_neg h2]

/-- The coalgebra's cells of a Hopf table. -/
def coC (K : Nat → SV) : Nat → SV := fun q => if q < 2 then K q else K (520 + q)

theorem coC_e {h : HT} {K : Nat → SV} (hK : h.At K) : ∀ q, q < 8 → coC K (2 + q) = .int .u8 (h.e q) := fun q hq => by
  unfold coC; rw [if_neg (by omega), ← hK.e q hq]; congr 1; omega

theorem coC_c {h : HT} {K : Nat → SV} (hK : h.At K) : ∀ q, q < 512 → coC K (10 + q) = .int .u8 (h.c q) := fun q hq => by
  unfold coC; rw [if_neg (by omega), ← hK.c q hq]; congr 1; omega

theorem HT.By.rowm {h : HT} (hB : h.By) {i j : Nat} (hi : i < 8) (hj : j < 8) : isBy 8 (fun x => h.m (64 * i + 8 * j + x)) := fun x hx => hB.m _ (by omega)

theorem HT.By.rowc {h : HT} (hB : h.By) {i : Nat} (hi : i < 8) : isBy 64 (fun q => h.c (64 * i + q)) := fun x hx => hB.c _ (by omega)

theorem HT.By.rows {h : HT} (hB : h.By) {j : Nat} (hj : j < 8) : isBy 8 (fun y => h.s (8 * j + y)) := fun x hx => hB.s _ (by omega)

theorem firstNot_split (A : Nat → Prop) (j : Nat) : ∀ (i k : Nat), firstNot A k (i + j) = if firstNot A k i = 0 then firstNot A (k + i) j else firstNot A k i
  | 0, k => by rw [Nat.zero_add, if_pos (show firstNot A k 0 = 0 from rfl)]; rfl
  | i + 1, k => by
    rw [show i + 1 + j = (i + j) + 1 by omega]
    by_cases h : A k
    · rw [firstNot_go h, firstNot_go h, firstNot_split A j i (k + 1), show k + 1 + i = k + (i + 1) by omega]
    · rw [firstNot_end h, firstNot_end h, if_neg (by omega)]

theorem ax4_rows {h : HT} {a : Nat} (hS : HS h a) : ax4 h ↔ ∀ j, j < a → ∀ q, q < 8 → cps h.p h.c h.u 8 (8 * j + q) = pl h.p (fun _ => 0) (h.u j) h.u q := by
  constructor
  · intro q j hj x hx
    rw [q (8 * j + x) (by have := hS.ha; omega), outer_row _ _ _ _ _ hx]
  · intro q x hx
    by_cases e : x < 8 * a
    · have := q (x / 8) (by omega) (x % 8) (by omega)
      rw [outer_row _ _ _ _ _ (by omega), show 8 * (x / 8) + x % 8 = x by omega] at this
      exact this
    · have h1 : cps h.p h.c h.u 8 x = 0 := by
        unfold cps
        rw [sm_zero fun i hi => by rw [hS.cm.at hi hx (.inr (by omega)), Int.mul_zero]]
        rfl
      have h2 : outer h.p h.u h.u x = 0 := by
        unfold outer
        rw [hS.um (x / 8) (by omega) (by omega), Int.zero_mul]
        rfl
      rw [h1, h2]

theorem ax_fold6 {h : HT} {a : Nat} (hS : HS h a) : ax h 5 ↔ ∀ i : Nat, i < a → ∀ q, q < 8 → fold h.p h.c i (g6 h.p h.m h.s a) 64 q = pl h.p (fun _ => 0) (h.e i) h.u q := by
  show ax6 h ↔ _
  unfold ax6; rw [hS.N]

theorem ax_fold7 {h : HT} {a : Nat} (hS : HS h a) : ax h 6 ↔ ∀ i : Nat, i < a → ∀ q, q < 8 → fold h.p h.c i (g7 h.p h.m h.s a) 64 q = pl h.p (fun _ => 0) (h.e i) h.u q := by
  show ax7 h ↔ _
  unfold ax7; rw [hS.N]

/-- 0 for what holds, 1 for what does not. -/
noncomputable def cd (Q : Prop) : Int := if tb Q = true then 0 else 1

theorem cd_true {Q : Prop} (h : Q) : cd Q = 0 := by unfold cd; rw [tb_true h]; rfl

theorem cd_false {Q : Prop} (h : ¬Q) : cd Q = 1 := by unfold cd; rw [tb_false h]; rfl

theorem cd_iff {Q R : Prop} (h : Q ↔ R) : cd Q = cd R := by unfold cd; rw [tb_iff h]

/-- A list of len vectors. -/
def lst (H : Hp) (v : SV) (len : Nat) (w : Nat → Int) : Prop :=
  (v = .nils ∧ len = 0) ∨ ∃ b o c K, v = .slc b o len c ∧ H.get b = some K ∧ o + 8 * len ≤ K.size ∧ ∀ q, q < 8 * len → K.c (o + q) = .int .u8 (w q)

end Go.V

namespace Go.Proofs.YtideblodkkgodaaGreat

open Go.V

set_option linter.unusedSimpArgs false

set_option linter.unusedVariables false

set_option maxHeartbeats 4000000

/-- The list of the axioms' functions. -/
def axF (b nb : Nat) : Nat → SV
  | 0 => .fn 86 [] [.ptr nb 0]
  | 1 => .fn 88 [] [.ptr nb 0]
  | 2 => .fn 90 [.ptr b 0] []
  | 3 => .fn 91 [.ptr b 0] []
  | 4 => .fn 92 [.ptr b 0] []
  | 5 => .fn 93 [] [.ptr nb 0]
  | _ => .fn 95 [] [.ptr nb 0]

end Go.Proofs.YtideblodkkgodaaGreat

namespace Go.V

set_option linter.unusedSimpArgs false

set_option linter.unusedVariables false

set_option maxHeartbeats 4000000

/-- The first x parts of 64 of B, the other ones of A. -/
def tabsTo (A B : Nat → Int) (x : Nat) : Nat → Int := fun q => if q < 64 * x then B q else A q

theorem tabsTo_zero (A B : Nat → Int) : tabsTo A B 0 = A := by funext q; simp [tabsTo]

theorem tabsTo_step {A B : Nat → Int} {x : Nat} {r : Nat → Int} (h : ∀ y, y < 64 → r y = B (64 * x + y)) (q : Nat) : splice (bys (tabsTo A B x)) (64 * x) 64 (bys r) q = bys (tabsTo A B (x + 1)) q := by
  unfold splice bys tabsTo
  by_cases h1 : 64 * x ≤ q ∧ q < 64 * x + 64
  · rw [if_pos h1, if_pos (by omega), h (q - 64 * x) (by omega), show 64 * x + (q - 64 * x) = q by omega]
  · rw [if_neg h1]
    by_cases h2 : q < 64 * x
    · rw [if_pos h2, if_pos (by omega)]
    · rw [if_neg h2, if_neg (by omega)]

def cellsTo (B : Nat → Int) (x : Nat) : Nat → Int := fun q => if q < x then B q else 0

theorem cellsTo_zero (B : Nat → Int) : cellsTo B 0 = fun _ => 0 := by funext q; simp [cellsTo]

theorem cellsTo_step (B : Nat → Int) (x q : Nat) : put1 (bys (cellsTo B x)) x (.int .u8 (B x)) q = bys (cellsTo B (x + 1)) q := by
  unfold put1 bys cellsTo
  by_cases h : q = x
  · subst h; rw [if_pos rfl, if_pos (by omega)]
  · rw [if_neg h]
    by_cases h2 : q < x
    · rw [if_pos h2, if_pos (by omega)]
    · rw [if_neg h2, if_neg (by omega)]

theorem isHopf.hs {h : HT} (q : isHopf h) : ∃ a, HS h a := q.1.hs

theorem rep_getD (n q : Nat) : (List.replicate n IntKind.u8).getD q .u8 = .u8 := by
  rw [List.getD_eq_getElem?_getD, List.getElem?_replicate]; split <;> rfl

theorem u8_bounds {x : Int} (h : (Lit.int .u8 x).wf = true) : 0 ≤ x ∧ x ≤ 255 := by
  simp only [Lit.wf, Bool.and_eq_true, decide_eq_true_eq] at h
  exact h

abbrev hopfKs : List IntKind := .i64 :: .i64 :: List.replicate 1104 .u8

theorem hopfKs_u8 (q : Nat) : hopfKs.getD (2 + q) .u8 = .u8 := by
  rw [show 2 + q = q + 1 + 1 by omega]
  show (List.replicate 1104 IntKind.u8).getD q .u8 = .u8
  exact rep_getD _ _

/-- The table in a row of cells. -/
def hOf (z : Nat → Int) : HT := ⟨z 0, z 1, fun q => z (2 + q), fun q => z (10 + q), fun q => z (522 + q), fun q => z (530 + q), fun q => z (1042 + q)⟩

theorem hOf_at (z : Nat → Int) : (hOf z).At (fun i => .int (hopfKs.getD i .u8) (z i)) where
  p := rfl
  n := rfl
  u := fun q _ => by show SV.int (hopfKs.getD (2 + q) .u8) _ = _; rw [hopfKs_u8]; rfl
  m := fun q _ => by show SV.int (hopfKs.getD (10 + q) .u8) _ = _; rw [show 10 + q = 2 + (8 + q) by omega, hopfKs_u8, show 2 + (8 + q) = 10 + q by omega]; rfl
  e := fun q _ => by show SV.int (hopfKs.getD (522 + q) .u8) _ = _; rw [show 522 + q = 2 + (520 + q) by omega, hopfKs_u8, show 2 + (520 + q) = 522 + q by omega]; rfl
  c := fun q _ => by show SV.int (hopfKs.getD (530 + q) .u8) _ = _; rw [show 530 + q = 2 + (528 + q) by omega, hopfKs_u8, show 2 + (528 + q) = 530 + q by omega]; rfl
  s := fun q _ => by show SV.int (hopfKs.getD (1042 + q) .u8) _ = _; rw [show 1042 + q = 2 + (1040 + q) by omega, hopfKs_u8, show 2 + (1040 + q) = 1042 + q by omega]; rfl

theorem hOf_u8 {z : Nat → Int} (w : ∀ i, (Lit.int (hopfKs.getD i .u8) (z i)).wf = true) (q : Nat) : 0 ≤ z (2 + q) ∧ z (2 + q) ≤ 255 := by
  have := w (2 + q); rw [hopfKs_u8] at this; exact u8_bounds this

theorem hOf_by {z : Nat → Int} (w : ∀ i, (Lit.int (hopfKs.getD i .u8) (z i)).wf = true) : (hOf z).By where
  u := fun q _ => hOf_u8 w q
  m := fun q _ => by have := hOf_u8 w (8 + q); rwa [show 2 + (8 + q) = 10 + q by omega] at this
  e := fun q _ => by have := hOf_u8 w (520 + q); rwa [show 2 + (520 + q) = 522 + q by omega] at this
  c := fun q _ => by have := hOf_u8 w (528 + q); rwa [show 2 + (528 + q) = 530 + q by omega] at this
  s := fun q _ => by have := hOf_u8 w (1040 + q); rwa [show 2 + (1040 + q) = 1042 + q by omega] at this

theorem Gmodmul {p a a' b b' : Int} (h : a % p = a' % p) (g : b % p = b' % p) : a * b % p = a' * b' % p := by rw [Int.mul_emod a b, h, g, ← Int.mul_emod]

theorem Gmodadd {p a a' b b' : Int} (h : a % p = a' % p) (g : b % p = b' % p) : (a + b) % p = (a' + b') % p := by rw [Int.add_emod a b, h, g, ← Int.add_emod]

theorem Gmodsub {p a a' b b' : Int} (h : a % p = a' % p) (g : b % p = b' % p) : (a - b) % p = (a' - b') % p := by rw [Int.sub_emod a b, h, g, ← Int.sub_emod]

theorem emod_idem (a p : Int) : a % p % p = a % p := Int.emod_emod_of_dvd _ (Int.dvd_refl p)

/-- Two rows changed for each other. -/
def swp (R : Nat → Nat → Int) (a b : Nat) : Nat → Nat → Int := fun k => if k = a then R b else if k = b then R a else R k

/-- The row at made 1 at the place c, and the others 0 there. -/
noncomputable def clr (p : Int) (R : Nat → Nat → Int) (at' c : Nat) : Nat → Nat → Int := fun k x =>
  if k = at' then inv p (R at' c) * R at' x % p else (R k x - R k c * (inv p (R at' c) * R at' x % p)) % p

/-- Rows brought into the reduced form so far: d of m rows have their places, up to the column c. -/
structure RF (p : Int) (R : Nat → Nat → Int) (m n : Nat) (pl : Nat → Nat) (d c : Nat) : Prop where
  dm : d ≤ m
  res : ∀ k x, k < m → x ≤ n → 0 ≤ R k x ∧ R k x < p
  pc : ∀ k, k < d → pl k < c
  mono : ∀ k k', k < k' → k' < d → pl k < pl k'
  one : ∀ k, k < d → R k (pl k) = 1
  zer : ∀ k j, k < d → j < m → j ≠ k → R j (pl k) = 0
  rest : ∀ j x, d ≤ j → j < m → x < c → R j x = 0
  lead : ∀ k x, k < d → x < pl k → R k x = 0

theorem RF.zero {p : Int} {R : Nat → Nat → Int} {m n : Nat} {pl : Nat → Nat} (hR : ∀ k x, k < m → x ≤ n → 0 ≤ R k x ∧ R k x < p) : RF p R m n pl 0 0 :=
  ⟨Nat.zero_le _, hR, fun k hk => by omega, fun k k' h1 h2 => by omega, fun k hk => by omega, fun k j hk => by omega, fun j x _ _ hx => by omega, fun k x hk => by omega⟩

theorem RF.same {p : Int} {R R' : Nat → Nat → Int} {m n : Nat} {pl : Nat → Nat} {d c : Nat} (hc : c ≤ n) (h : RF p R m n pl d c) (hp : ∀ k, k < d → pl k < n) (he : ∀ k x, k < m → x ≤ n → R' k x = R k x) : RF p R' m n pl d c :=
  ⟨h.dm, fun k x hk hx => by rw [he k x hk hx]; exact h.res k x hk hx, h.pc, h.mono, fun k hk => by rw [he k _ (by have := h.dm; omega) (by have := hp k hk; omega)]; exact h.one k hk,
   fun k j hk hj hne => by rw [he j _ hj (by have := hp k hk; omega)]; exact h.zer k j hk hj hne, fun j x h1 h2 h3 => by rw [he j x h2 (by omega)]; exact h.rest j x h1 h2 h3,
   fun k x hk hx => by rw [he k x (by have := h.dm; omega) (by have := hp k hk; omega)]; exact h.lead k x hk hx⟩

/-- A column without a number. -/
theorem RF.skip {p : Int} {R : Nat → Nat → Int} {m n : Nat} {pl : Nat → Nat} {d c : Nat} (h : RF p R m n pl d c) (h0 : ∀ j, d ≤ j → j < m → R j c = 0) : RF p R m n pl d (c + 1) :=
  ⟨h.dm, h.res, fun k hk => by have := h.pc k hk; omega, h.mono, h.one, h.zer, fun j x h1 h2 h3 => by
    by_cases e : x = c
    · subst e; exact h0 j h1 h2
    · exact h.rest j x h1 h2 (by omega), h.lead⟩

/-- Two rows that have no places yet changed for each other. -/
theorem RF.swp {p : Int} {R : Nat → Nat → Int} {m n : Nat} {pl : Nat → Nat} {d c a b : Nat} (h : RF p R m n pl d c) (ha : d ≤ a) (ha' : a < m) (hb : d ≤ b) (hb' : b < m) : RF p (swp R a b) m n pl d c := by
  have e : ∀ j, j < d → Go.V.swp R a b j = R j := fun j hj => by unfold Go.V.swp; rw [if_neg (by omega), if_neg (by omega)]
  have e2 : ∀ j, d ≤ j → j < m → ∃ j', d ≤ j' ∧ j' < m ∧ Go.V.swp R a b j = R j' := fun j h1 h2 => by
    unfold Go.V.swp
    split
    · exact ⟨b, hb, hb', rfl⟩
    · split
      · exact ⟨a, ha, ha', rfl⟩
      · exact ⟨j, h1, h2, rfl⟩
  refine ⟨h.dm, fun k x hk hx => ?_, h.pc, h.mono, fun k hk => by rw [e k hk]; exact h.one k hk, fun k j hk hj hne => ?_, fun j x h1 h2 h3 => ?_, fun k x hk hx => by rw [e k hk]; exact h.lead k x hk hx⟩
  · by_cases hd : k < d
    · rw [e k hd]; exact h.res k x hk hx
    · obtain ⟨j', h1, h2, h3⟩ := e2 k (by omega) hk
      rw [h3]; exact h.res j' x h2 hx
  · by_cases hd : j < d
    · rw [e j hd]; exact h.zer k j hk hj hne
    · obtain ⟨j', h1, h2, h3⟩ := e2 j (by omega) hj
      rw [h3]; exact h.zer k j' hk h2 (by omega)
  · obtain ⟨j', h4, h5, h6⟩ := e2 j h1 h2
    rw [h6]; exact h.rest j' x h4 h5 h3

/-- The next row gets its place. -/
theorem RF.clr {p : Int} {R : Nat → Nat → Int} {m n : Nat} {pl : Nat → Nat} {d c : Nat} (hp : isP p = true) (h : RF p R m n pl d c) (hd : d < m) (hc : c < n) (h0 : R d c ≠ 0) :
    RF p (clr p R d c) m n (fun k => if k = d then c else pl k) (d + 1) (c + 1) := by
  have hb := isP_le hp
  have hr := h.res d c hd (by omega)
  have hm : R d c % p ≠ 0 := by rw [modSelf hr]; exact h0
  have hi := inv_spec hp hm
  have ed : ∀ x, R d x = 0 → Go.V.clr p R d c d x = 0 := fun x hx => by unfold Go.V.clr; rw [if_pos rfl, hx, Int.mul_zero]; rfl
  have ek : ∀ k x, k ≠ d → k < m → x ≤ n → R d x = 0 → Go.V.clr p R d c k x = R k x := fun k x hk hkm hxn hx => by
    unfold Go.V.clr; rw [if_neg hk, hx, Int.mul_zero, Int.zero_emod, Int.mul_zero, Int.sub_zero]; exact modSelf (h.res k x hkm hxn)
  have edc : Go.V.clr p R d c d c = 1 := by unfold Go.V.clr; rw [if_pos rfl]; exact hi.2.2
  refine ⟨hd, fun k x _ _ => ?_, fun k hk => ?_, fun k k' h1 h2 => ?_, fun k hk => ?_, fun k j hk hj hne => ?_, fun j x h1 h2 h3 => ?_, fun k x hk hx => ?_⟩
  · unfold Go.V.clr; split <;> exact modB _ hb.1
  · (try dsimp only); split
    · omega
    · have := h.pc k (by omega); omega
  · (try dsimp only)
    rw [if_neg (by omega)]
    split
    · exact h.pc k (by omega)
    · exact h.mono k k' h1 (by omega)
  · (try dsimp only)
    by_cases e : k = d
    · subst e; rw [if_pos rfl]; exact edc
    · rw [if_neg e]
      have h1 := h.pc k (by omega)
      rw [ek k _ e (by omega) (by omega) (h.zer k d (by omega) hd (by omega))]
      exact h.one k (by omega)
  · (try dsimp only)
    by_cases e : k = d
    · subst e
      rw [if_pos rfl]
      unfold Go.V.clr
      rw [if_neg hne, hi.2.2, Int.mul_one, Int.sub_self, Int.zero_emod]
    · rw [if_neg e]
      have h1 := h.pc k (by omega)
      have h2 := h.zer k d (by omega) hd (by omega)
      by_cases e2 : j = d
      · subst e2; exact ed _ h2
      · rw [ek j _ e2 hj (by omega) h2]; exact h.zer k j (by omega) hj hne
  · by_cases e : x = c
    · subst e
      unfold Go.V.clr
      rw [if_neg (by omega), hi.2.2, Int.mul_one, Int.sub_self, Int.zero_emod]
    · rw [ek j x (by omega) h2 (by omega) (h.rest d x (by omega) hd (by omega))]
      exact h.rest j x (by omega) h2 (by omega)
  · (try dsimp only at hx)
    by_cases e : k = d
    · subst e
      rw [if_pos rfl] at hx
      exact ed x (h.rest k x (by omega) hd hx)
    · rw [if_neg e] at hx
      have h1 := h.pc k (by omega)
      rw [ek k x e (by omega) (by omega) (h.rest d x (by omega) hd (by omega))]
      exact h.lead k x (by omega) hx

/-- The end: all columns have been gone through, or all rows have places. -/
theorem RF.done {p : Int} {R : Nat → Nat → Int} {m n : Nat} {pl : Nat → Nat} {d c : Nat} (h : RF p R m n pl d c) (hc : c ≤ n) (he : c = n ∨ d = m) : RF p R m n pl d n :=
  ⟨h.dm, h.res, fun k hk => by have := h.pc k hk; omega, h.mono, h.one, h.zer, fun j x h1 h2 h3 => by
    rcases he with rfl | rfl
    · exact h.rest j x h1 h2 h3
    · omega, h.lead⟩

/-- The first place with a number that is not 0, of so many. -/
def fsn (v : Nat → Int) : Nat → Nat
  | 0 => 0
  | k + 1 => if fsn v k < k then fsn v k else if v k ≠ 0 then k else k + 1

theorem fsn_le (v : Nat → Int) : ∀ n : Nat, fsn v n ≤ n
  | 0 => Nat.le_refl _
  | n + 1 => by
    have := fsn_le v n
    unfold fsn
    split
    · omega
    · split <;> omega

theorem fsn_low (v : Nat → Int) : ∀ (n j : Nat), j < fsn v n → v j = 0
  | 0, j, h => by unfold fsn at h; omega
  | n + 1, j, h => by
    have h2 := fsn_le v n
    unfold fsn at h
    split at h
    · exact fsn_low v n j h
    · split at h
      · exact fsn_low v n j (by omega)
      · rename_i h3 h4
        by_cases e : j = n
        · subst e; exact Classical.not_not.1 h4
        · exact fsn_low v n j (by omega)

theorem fsn_hit (v : Nat → Int) : ∀ (n : Nat), fsn v n < n → v (fsn v n) ≠ 0
  | 0, h => by unfold fsn at h; omega
  | n + 1, h => by
    unfold fsn at h ⊢
    split
    · rename_i h1; exact fsn_hit v n h1
    · rename_i h1
      rw [if_neg h1] at h
      split
      · rename_i h2; exact h2
      · rename_i h2; rw [if_neg h2] at h; omega

theorem fsn_eq {v : Nat → Int} {n j : Nat} (hj : j < n) (h0 : ∀ i, i < j → v i = 0) (h1 : v j ≠ 0) : fsn v n = j := by
  have h2 := fsn_le v n
  rcases Nat.lt_trichotomy (fsn v n) j with h | h | h
  · exact absurd (h0 _ h) (fsn_hit v n (by omega))
  · exact h
  · exact absurd (fsn_low v n j h) h1

theorem fsn_all {v : Nat → Int} {n : Nat} (h0 : ∀ i, i < n → v i = 0) : fsn v n = n := by
  have h2 := fsn_le v n
  rcases Nat.lt_or_ge (fsn v n) n with h | h
  · exact absurd (h0 _ h) (fsn_hit v n h)
  · omega

/-- v less what images make of its places, one by one. -/
def rdk (p : Int) (I : Nat → Nat → Int) (v : Nat → Int) : Nat → Nat → Int
  | 0 => v
  | k + 1 => pl p (rdk p I v k) (-(rdk p I v k (fsn (I k) 8))) (I k)

/-- w with k times what leads to them, k times what has been taken from v. -/
def rdw (p : Int) (I S : Nat → Nat → Int) (v w : Nat → Int) (s : Int) : Nat → Nat → Int
  | 0 => w
  | k + 1 => pl p (rdw p I S v w s k) (s * rdk p I v k (fsn (I k) 8)) (S k)

theorem rdk_succ (p : Int) (I : Nat → Nat → Int) (v : Nat → Int) (k : Nat) : rdk p I v (k + 1) = pl p (rdk p I v k) (-(rdk p I v k (fsn (I k) 8))) (I k) := rfl

theorem rdw_succ (p : Int) (I S : Nat → Nat → Int) (v w : Nat → Int) (s : Int) (k : Nat) : rdw p I S v w s (k + 1) = pl p (rdw p I S v w s k) (s * rdk p I v k (fsn (I k) 8)) (S k) := rfl

theorem rdk_res {p : Int} (hp : 2 ≤ p) {I : Nat → Nat → Int} {v : Nat → Int} {N : Nat} (hv : isRes p N v) : ∀ k, isRes p N (rdk p I v k)
  | 0 => hv
  | k + 1 => pl_res hp _ _ _ _

theorem rdw_res {p : Int} (hp : 2 ≤ p) {I S : Nat → Nat → Int} {v w : Nat → Int} {s : Int} {N : Nat} (hw : isRes p N w) : ∀ k, isRes p N (rdw p I S v w s k)
  | 0 => hw
  | k + 1 => pl_res hp _ _ _ _

theorem rdk_same {p : Int} {I : Nat → Nat → Int} {v : Nat → Int} {k : Nat} (hp : 2 ≤ p) (hv : isRes p 8 v) (h : rdk p I v k (fsn (I k) 8) = 0) {x : Nat} (hx : x < 8) : rdk p I v (k + 1) x = rdk p I v k x := by
  rw [rdk_succ, h, Int.neg_zero]; exact pl_zero _ (rdk_res hp hv k) hx

theorem rdw_same {p : Int} {I S : Nat → Nat → Int} {v w : Nat → Int} {s : Int} {k : Nat} (hp : 2 ≤ p) (hw : isRes p 8 w) (h : rdk p I v k (fsn (I k) 8) = 0) {x : Nat} (hx : x < 8) : rdw p I S v w s (k + 1) x = rdw p I S v w s k x := by
  rw [rdw_succ, h, Int.mul_zero]; exact pl_zero _ (rdw_res hp hw k) hx

/-- Only what is said of the first m images matters. -/
theorem rdk_congr {p : Int} {I I' : Nat → Nat → Int} {v : Nat → Int} : ∀ {m : Nat}, (∀ k, k < m → I k = I' k) → rdk p I v m = rdk p I' v m
  | 0, _ => rfl
  | m + 1, h => by unfold rdk; rw [rdk_congr (m := m) (fun k hk => h k (by omega)), h m (by omega)]

/-- Images that are reduced one by one. -/
structure IMG (p : Int) (I : Nat → Nat → Int) (m : Nat) : Prop where
  res : ∀ k, k < m → isRes p 8 (I k)
  lt : ∀ k, k < m → fsn (I k) 8 < 8
  one : ∀ k, k < m → I k (fsn (I k) 8) = 1
  tri : ∀ k j, k < j → j < m → I j (fsn (I k) 8) = 0

theorem rdk_zero {p : Int} (hp : 2 ≤ p) {I : Nat → Nat → Int} {m : Nat} {v : Nat → Int} (h : IMG p I m) : ∀ k j, j < k → k ≤ m → rdk p I v k (fsn (I j) 8) = 0
  | 0, j, h1, _ => by omega
  | k + 1, j, h1, h2 => by
    rw [rdk_succ]
    unfold pl
    by_cases e : j = k
    · subst e; rw [h.one j (by omega), Int.mul_one, Int.add_right_neg]; rfl
    · rw [rdk_zero hp h k j (by omega) (by omega), h.tri j k (by omega) (by omega), Int.mul_zero]; rfl

/-- v is a sum of numbers times images. -/
def spn (p : Int) (I : Nat → Nat → Int) (m : Nat) (v : Nat → Int) : Prop := ∃ g : Nat → Int, ∀ x, x < 8 → v x % p = sm (fun k => g k * I k x) m % p

theorem spn_add {p : Int} {I : Nat → Nat → Int} {m : Nat} {u v w : Nat → Int} {a b : Int} (hu : spn p I m u) (hv : spn p I m v) (h : ∀ x, x < 8 → w x % p = (a * u x + b * v x) % p) : spn p I m w := by
  obtain ⟨g, hg⟩ := hu
  obtain ⟨e, he⟩ := hv
  refine ⟨fun k => a * g k + b * e k, fun x hx => ?_⟩
  rw [h x hx, Gmodadd (Gmodmul rfl (hg x hx)) (Gmodmul rfl (he x hx)), sm_mul, sm_mul, ← sm_add]
  refine congrArg (· % p) (sm_congr (fun k _ => ?_))
  rw [Int.add_mul, Int.mul_assoc, Int.mul_assoc]

theorem spn_zero {p : Int} {I : Nat → Nat → Int} {m : Nat} {v : Nat → Int} (h : ∀ x, x < 8 → v x % p = 0) : spn p I m v :=
  ⟨fun _ => 0, fun x hx => by rw [h x hx, sm_zero (fun k _ => Int.zero_mul _)]; rfl⟩

theorem spn_one {p : Int} {I : Nat → Nat → Int} {m k : Nat} (hk : k < m) : spn p I m (I k) :=
  ⟨fun j => if j = k then 1 else 0, fun x _ => by rw [sm_one hk (fun i _ hi => by (try dsimp only); rw [if_neg hi, Int.zero_mul])]; (try dsimp only); rw [if_pos rfl, Int.one_mul]⟩

theorem spn_sum {p : Int} {I : Nat → Nat → Int} {m : Nat} {W : Nat → Nat → Int} {y : Nat → Int} : ∀ {r : Nat} {v : Nat → Int}, (∀ i, i < r → spn p I m (W i)) → (∀ x, x < 8 → v x % p = sm (fun i => y i * W i x) r % p) → spn p I m v
  | 0, v, _, hv => spn_zero (fun x hx => by rw [hv x hx]; rfl)
  | r + 1, v, hW, hv => by
    have h1 := spn_sum (r := r) (v := fun x => sm (fun i => y i * W i x) r) (fun i hi => hW i (by omega)) (fun x hx => rfl)
    refine spn_add (a := 1) (b := y r) h1 (hW r (by omega)) (fun x hx => ?_)
    rw [hv x hx, sm, Int.one_mul]

theorem spn_more {p : Int} {I : Nat → Nat → Int} {m m' : Nat} {v : Nat → Int} (hm : m ≤ m') (h : spn p I m v) : spn p I m' v := by
  obtain ⟨g, hg⟩ := h
  refine ⟨fun k => if k < m then g k else 0, fun x hx => ?_⟩
  rw [hg x hx, sm_more hm (fun i h1 h2 => by (try dsimp only); rw [if_neg (by omega), Int.zero_mul])]
  exact congrArg (· % p) (sm_congr (fun i hi => by (try dsimp only); rw [if_pos hi]))

/-- What has been reduced, and is of the space, is 0. -/
theorem spn_none {p : Int} {I : Nat → Nat → Int} {m : Nat} {v : Nat → Int} (h : IMG p I m) (hv : spn p I m v) (h0 : ∀ k, k < m → v (fsn (I k) 8) = 0) {x : Nat} (hx : x < 8) : v x % p = 0 := by
  obtain ⟨g, hg⟩ := hv
  have key : ∀ k, k < m → g k % p = 0 := by
    intro k
    induction k using Nat.strongRecOn with
    | _ k ih =>
      intro hk
      have e := hg _ (h.lt k hk)
      rw [h0 k hk, sm_modc (g := fun j => if j = k then g k else 0) (fun j hj => by
        by_cases h1 : j = k
        · subst h1; rw [h.one j hk, if_pos rfl, Int.mul_one]
        · rw [if_neg h1]
          by_cases h2 : j < k
          · rw [Int.mul_emod, ih j h2 hj, Int.zero_mul]
          · rw [h.tri k j (by omega) hj, Int.mul_zero]), sm_one hk (fun j _ hj => by rw [if_neg hj])] at e
      rw [if_pos rfl] at e
      rw [← e]; rfl
  rw [hg x hx, sm_modc (g := fun _ => 0) (fun k hk => by rw [Int.mul_emod, key k hk, Int.zero_mul]), sm_zero (fun _ _ => rfl)]
  rfl

theorem rdk_spn {p : Int} {I : Nat → Nat → Int} {m : Nat} {v : Nat → Int} (hv : spn p I m v) : ∀ k, k ≤ m → spn p I m (rdk p I v k)
  | 0, _ => hv
  | k + 1, h => spn_add (a := 1) (rdk_spn hv k (by omega)) (spn_one (k := k) (by omega)) (fun x _ => by rw [rdk_succ]; unfold pl; rw [emod_idem, Int.one_mul])

/-- What is reduced and not 0 is not of the space: with it, v is. -/
theorem rdk_back {p : Int} {I : Nat → Nat → Int} {v : Nat → Int} {m : Nat} : ∀ k, k ≤ m → spn p I m (rdk p I v k) → spn p I m v
  | 0, _, h => h
  | k + 1, hk, h => rdk_back k (by omega) (spn_add (a := 1) (b := rdk p I v k (fsn (I k) 8)) h (spn_one (k := k) (by omega)) (fun x _ => by
      rw [rdk_succ]
      unfold pl
      rw [Int.one_mul, modAddL, Int.neg_mul]
      congr 1; omega))

/-- Images of n rows of f and what leads to them. -/
structure SRC (p : Int) (f : Nat → Int) (n : Nat) (I S : Nat → Nat → Int) (m i : Nat) : Prop extends IMG p I m where
  mi : m ≤ i
  sres : ∀ k, k < m → isRes p 8 (S k)
  ssz : ∀ k x, k < m → x < 8 → n ≤ x → S k x = 0
  src : ∀ k x, k < m → x < 8 → I k x = app p f (S k) x
  gen : ∀ r, r < i → spn p I m (fun x => f (8 * r + x))

theorem app_pl {p : Int} {f u v w : Nat → Int} {k : Int} (h : ∀ x, x < 8 → w x % p = (u x + k * v x) % p) (x : Nat) : app p f w x = (app p f u x + k * app p f v x) % p := by
  unfold app
  rw [modAdd, sm_mul, ← sm_add]
  refine sm_modc (fun i hi => ?_)
  rw [Gmodmul (h i hi) rfl, Int.add_mul, Int.mul_assoc]

theorem pl_app {p : Int} {f u v : Nat → Int} {k : Int} (x : Nat) : app p f (pl p u k v) x = pl p (app p f u) k (app p f v) x :=
  app_pl (fun x _ => by unfold pl; exact emod_idem _ _) x

/-- What has been taken from v is the image of what has been put to w. -/
theorem rdw_src {p : Int} {f : Nat → Int} {n m i : Nat} {I S : Nat → Nat → Int} (h : SRC p f n I S m i) {v w : Nat → Int} {s : Int} {x : Nat} (hx : x < 8) : ∀ k, k ≤ m → (app p f (rdw p I S v w s k) x + s * rdk p I v k x) % p = (app p f w x + s * v x) % p
  | 0, _ => rfl
  | k + 1, hk => by
    rw [← rdw_src h (v := v) (w := w) (s := s) hx k (by omega)]
    rw [rdw_succ, rdk_succ, pl_app]
    unfold pl
    rw [modAddL, ← modAddR _ (s * _), emodR, modAddR, ← h.src k x (by omega) hx, Int.mul_add]
    congr 1
    generalize rdk p I v k (fsn (I k) 8) = t
    rw [Int.neg_mul, Int.mul_neg, Int.mul_assoc]
    omega

theorem rdw_sz {p : Int} {f : Nat → Int} {n m i : Nat} {I S : Nat → Nat → Int} (h : SRC p f n I S m i) {v w : Nat → Int} {s : Int} (hw : ∀ x, x < 8 → n ≤ x → w x = 0) {x : Nat} (hx : x < 8) (hn : n ≤ x) : ∀ k, k ≤ m → rdw p I S v w s k x = 0
  | 0, _ => hw x hx hn
  | k + 1, hk => by
    rw [rdw_succ]
    unfold pl
    rw [rdw_sz h hw hx hn k (by omega), h.ssz k x (by omega) hx hn, Int.mul_zero]; rfl

/-- So many functions and one more. -/
def snc (I : Nat → Nat → Int) (m : Nat) (v : Nat → Int) : Nat → Nat → Int := fun k => if k = m then v else I k

theorem SRC.zero {p : Int} (f : Nat → Int) (n : Nat) (I S : Nat → Nat → Int) : SRC p f n I S 0 0 :=
  { res := fun k h => by omega, lt := fun k h => by omega, one := fun k h => by omega, tri := fun k j h1 h2 => by omega, mi := Nat.le_refl _, sres := fun k h => by omega, ssz := fun k x h => by omega, src := fun k x h => by omega, gen := fun r h => by omega }

/-- A row of the space. -/
theorem SRC.ker {p : Int} {f : Nat → Int} {n m i : Nat} {I S : Nat → Nat → Int} (h : SRC p f n I S m i) (h0 : ∀ x, x < 8 → rdk p I (fun x => f (8 * i + x)) m x = 0) : SRC p f n I S m (i + 1) :=
  { h with
    mi := by have := h.mi; omega
    gen := fun r hr => by
      by_cases e : r = i
      · subst e; exact rdk_back m (Nat.le_refl _) (spn_zero (fun x hx => by rw [h0 x hx]; rfl))
      · exact h.gen r (by omega) }

theorem fsn_cong {v w : Nat → Int} : ∀ {n : Nat}, (∀ x, x < n → (v x = 0 ↔ w x = 0)) → fsn v n = fsn w n
  | 0, _ => rfl
  | n + 1, h => by
    unfold fsn
    rw [fsn_cong (n := n) (fun x hx => h x (by omega))]
    have := h n (by omega)
    by_cases e : v n = 0
    · rw [if_neg (show ¬v n ≠ 0 from fun q => q e), if_neg (show ¬w n ≠ 0 from fun q => q (this.1 e))]
    · rw [if_pos e, if_pos (fun q => e (this.2 q))]

theorem spn_snc {p : Int} {I : Nat → Nat → Int} {m : Nat} {v u : Nat → Int} (h : spn p I m u) : spn p (snc I m v) (m + 1) u := by
  obtain ⟨g, hg⟩ := h
  refine ⟨fun k => if k < m then g k else 0, fun x hx => ?_⟩
  rw [hg x hx, sm]
  (try dsimp only)
  rw [if_neg (by omega), Int.zero_mul, Int.add_zero]
  exact congrArg (· % p) (sm_congr (fun i hi => by (try dsimp only); unfold snc; rw [if_pos hi, if_neg (by omega)]))

/-- A row that is not of the space: a new image. -/
theorem SRC.img {p : Int} (hp : isP p = true) {f : Nat → Int} {n m i : Nat} {I S : Nat → Nat → Int} (h : SRC p f n I S m i) (hi : i < n) (hn : n ≤ 8) (hf : isRes p 64 f) (u w : Nat → Int)
    (hu : u = rdk p I (fun x => f (8 * i + x)) m) (hw : w = rdw p I S (fun x => f (8 * i + x)) (bas i) (-1) m) (h0 : fsn u 8 < 8) :
    SRC p f n (snc I m (pl p (fun _ => 0) (inv p (u (fsn u 8))) u)) (snc S m (pl p (fun _ => 0) (inv p (u (fsn u 8))) w)) (m + 1) (i + 1) := by
  have hb := isP_le hp
  have hru : isRes p 8 u := by rw [hu]; exact rdk_res hb.1 (fun x hx => hf _ (by omega)) m
  have hne := fsn_hit u 8 h0
  have hm0 : u (fsn u 8) % p ≠ 0 := by rw [modSelf (hru _ h0)]; exact hne
  have hv := inv_spec hp hm0
  have hz : ∀ x, x < 8 → (pl p (fun _ => 0) (inv p (u (fsn u 8))) u x = 0 ↔ u x = 0) := fun x hx => by
    unfold pl
    rw [Int.zero_add]
    constructor
    · intro e
      have : u (fsn u 8) * (inv p (u (fsn u 8)) * u x) % p = 0 := by rw [Int.mul_emod, e]; simp
      rw [← Int.mul_assoc, Int.mul_comm (u (fsn u 8)), Int.mul_emod, hv.2.2, Int.one_mul, emod_idem, modSelf (hru x hx)] at this
      exact this
    · intro e; rw [e, Int.mul_zero]; rfl
  have hfs : fsn (pl p (fun _ => 0) (inv p (u (fsn u 8))) u) 8 = fsn u 8 := fsn_cong hz
  have e1 : ∀ k, k < m → snc I m (pl p (fun _ => 0) (inv p (u (fsn u 8))) u) k = I k := fun k hk => by unfold snc; rw [if_neg (by omega)]
  have e2 : ∀ k, k < m → snc S m (pl p (fun _ => 0) (inv p (u (fsn u 8))) w) k = S k := fun k hk => by unfold snc; rw [if_neg (by omega)]
  have e3 : snc I m (pl p (fun _ => 0) (inv p (u (fsn u 8))) u) m = pl p (fun _ => 0) (inv p (u (fsn u 8))) u := by unfold snc; rw [if_pos rfl]
  have e4 : snc S m (pl p (fun _ => 0) (inv p (u (fsn u 8))) w) m = pl p (fun _ => 0) (inv p (u (fsn u 8))) w := by unfold snc; rw [if_pos rfl]
  have hsp : spn p (snc I m (pl p (fun _ => 0) (inv p (u (fsn u 8))) u)) (m + 1) u := spn_add (a := u (fsn u 8)) (b := 0) (spn_one (k := m) (by omega)) (spn_one (k := m) (by omega)) (fun x hx => by
    rw [e3]
    unfold pl
    rw [Int.zero_add, Int.zero_mul, Int.add_zero, emodR, ← Int.mul_assoc, Int.mul_comm (u (fsn u 8)), Int.mul_emod, hv.2.2, Int.one_mul, emod_idem])
  have hwsz : ∀ x, x < 8 → n ≤ x → w x = 0 := fun x hx hnx => by
    rw [hw]; exact rdw_sz h (fun y hy hny => by unfold bas; rw [if_neg (by omega)]) hx hnx m (Nat.le_refl _)
  refine { res := fun k hk => ?_, lt := fun k hk => ?_, one := fun k hk => ?_, tri := fun k j hkj hj => ?_, mi := by have := h.mi; omega, sres := fun k hk => ?_, ssz := fun k x hk hx hnx => ?_, src := fun k x hk hx => ?_, gen := fun r hr => ?_ }
  · by_cases e : k = m
    · subst e; rw [e3]; exact pl_res hb.1 _ _ _ _
    · rw [e1 k (by omega)]; exact h.res k (by omega)
  · by_cases e : k = m
    · subst e; rw [e3, hfs]; exact h0
    · rw [e1 k (by omega)]; exact h.lt k (by omega)
  · by_cases e : k = m
    · subst e; rw [e3, hfs]; unfold pl; rw [Int.zero_add]; exact hv.2.2
    · rw [e1 k (by omega)]; exact h.one k (by omega)
  · rw [e1 k (by omega)]
    by_cases e : j = m
    · subst e
      rw [e3]
      unfold pl
      rw [show u (fsn (I k) 8) = 0 by rw [hu]; exact rdk_zero hb.1 h.toIMG j k hkj (Nat.le_refl _), Int.mul_zero]; rfl
    · rw [e1 j (by omega)]; exact h.tri k j hkj (by omega)
  · by_cases e : k = m
    · subst e; rw [e4]; exact pl_res hb.1 _ _ _ _
    · rw [e2 k (by omega)]; exact h.sres k (by omega)
  · by_cases e : k = m
    · subst e; rw [e4]; unfold pl; rw [hwsz x hx hnx, Int.mul_zero]; rfl
    · rw [e2 k (by omega)]; exact h.ssz k x (by omega) hx hnx
  · by_cases e : k = m
    · subst e
      rw [e3, e4, pl_app]
      have e5 := rdw_src h (v := fun x => f (8 * i + x)) (w := bas i) (s := -1) hx k (Nat.le_refl _)
      rw [← hu, ← hw] at e5
      have e6 : app p f (bas i) x = f (8 * i + x) % p := by
        unfold app; rw [sm_one (j := i) (by omega) (fun j _ hj => by unfold bas; rw [if_neg hj, Int.zero_mul])]; unfold bas; rw [if_pos rfl, Int.one_mul]
      rw [e6, modAddL] at e5
      have e7 : app p f w x % p = u x % p := by
        have := Gmodadd e5 (show u x % p = u x % p from rfl)
        rw [show app p f w x + -1 * u x + u x = app p f w x by omega, show f (8 * i + x) + -1 * f (8 * i + x) + u x = u x by omega] at this
        exact this
      unfold pl
      have e8 : app p f (fun _ => 0) x = 0 := by unfold app; rw [sm_zero (fun i _ => by rw [Int.zero_mul])]; rfl
      rw [e8]
      exact Gmodadd rfl (Gmodmul rfl e7.symm)
    · rw [e1 k (by omega), e2 k (by omega)]; exact h.src k x (by omega) hx
  · by_cases e : r = i
    · subst e
      refine rdk_back (m := m + 1) m (by omega) ?_
      rw [rdk_congr (I' := I) e1, ← hu]
      exact hsp
    · exact spn_snc (h.gen r (by omega))

/-- d vectors, reduced, with their first places. -/
structure RR (p : Int) (A : Nat → Nat → Int) (d : Nat) (pl : Nat → Nat) : Prop where
  res : ∀ k, k < d → isRes p 8 (A k)
  lt : ∀ k, k < d → pl k < 8
  mono : ∀ k k', k < k' → k' < d → pl k < pl k'
  one : ∀ k, k < d → A k (pl k) = 1
  zer : ∀ k j, k < d → j < d → j ≠ k → A j (pl k) = 0
  lead : ∀ k x, k < d → x < pl k → A k x = 0

theorem RR.fsn {p : Int} {A : Nat → Nat → Int} {d : Nat} {pl : Nat → Nat} (h : RR p A d pl) {k : Nat} (hk : k < d) : fsn (A k) 8 = pl k :=
  fsn_eq (h.lt k hk) (fun i hi => h.lead k i hk hi) (by rw [h.one k hk]; decide)

theorem RR.coef {p : Int} {A : Nat → Nat → Int} {d : Nat} {pl : Nat → Nat} (h : RR p A d pl) {v : Nat → Int} (hv : spn p A d v) {x : Nat} (hx : x < 8) : v x % p = sm (fun k => v (pl k) * A k x) d % p := by
  obtain ⟨g, hg⟩ := hv
  rw [hg x hx]
  refine sm_modc (fun k hk => Gmodmul ?_ rfl)
  rw [hg _ (h.lt k hk), sm_one hk (fun j hj hne => by rw [h.zer k j hk hj hne, Int.mul_zero]), h.one k hk, Int.mul_one]

/-- What is 0 at all places is 0. -/
theorem RR.none {p : Int} {A : Nat → Nat → Int} {d : Nat} {pl : Nat → Nat} (h : RR p A d pl) {v : Nat → Int} (hv : spn p A d v) (h0 : ∀ k, k < d → v (pl k) = 0) {x : Nat} (hx : x < 8) : v x % p = 0 := by
  rw [h.coef hv hx, sm_zero (fun k hk => by rw [h0 k hk, Int.zero_mul])]; rfl

/-- The first place of a vector of the space is one of the places. -/
theorem RR.first {p : Int} {A : Nat → Nat → Int} {d : Nat} {pl : Nat → Nat} (h : RR p A d pl) {v : Nat → Int} (hv : spn p A d v) {q : Nat} (hq : q < 8) (h1 : v q % p ≠ 0) (h0 : ∀ x, x < q → v x = 0) : ∃ k, k < d ∧ pl k = q := by
  apply Classical.byContradiction
  intro hn
  refine h1 ?_
  rw [h.coef hv hq, sm_zero (fun k hk => ?_)]; rfl
  rcases Nat.lt_trichotomy (pl k) q with e | e | e
  · rw [h0 _ e, Int.zero_mul]
  · exact absurd ⟨k, hk, e⟩ hn
  · rw [h.lead k q hk e, Int.mul_zero]

theorem mono_same {a b : Nat → Nat} {d d' : Nat} (ha : ∀ k k', k < k' → k' < d → a k < a k') (hb : ∀ k k', k < k' → k' < d' → b k < b k') (h1 : ∀ k, k < d → ∃ j, j < d' ∧ b j = a k) (h2 : ∀ k, k < d' → ∃ j, j < d ∧ a j = b k) :
    ∀ k, k < d → k < d' ∧ a k = b k := by
  intro k
  induction k using Nat.strongRecOn with
  | _ k ih =>
    intro hk
    obtain ⟨i, hi, e⟩ := h1 k hk
    have hik : k ≤ i := by
      rcases Nat.lt_or_ge i k with h | h
      · have := ih i h (by omega)
        have := ha i k h hk
        omega
      · exact h
    have hkd : k < d' := by omega
    obtain ⟨i', hi', e'⟩ := h2 k hkd
    have hik' : k ≤ i' := by
      rcases Nat.lt_or_ge i' k with h | h
      · have h3 := ih i' h (by omega)
        have := hb i' k h hkd
        omega
      · exact h
    refine ⟨hkd, ?_⟩
    have e1 : b k ≤ b i := by
      rcases Nat.lt_or_ge k i with h | h
      · exact Nat.le_of_lt (hb k i h hi)
      · rw [show i = k by omega]; exact Nat.le_refl _
    have e2 : a k ≤ a i' := by
      rcases Nat.lt_or_ge k i' with h | h
      · exact Nat.le_of_lt (ha k i' h hi')
      · rw [show i' = k by omega]; exact Nat.le_refl _
    omega

/-- Two reduced lists of one space are the same. -/
theorem RR.uniq {p : Int} (hp : 2 ≤ p) {A B : Nat → Nat → Int} {d d' : Nat} {pl pl' : Nat → Nat} (h : RR p A d pl) (h' : RR p B d' pl') (hAB : ∀ k, k < d → spn p B d' (A k)) (hBA : ∀ k, k < d' → spn p A d (B k)) :
    d = d' ∧ ∀ k, k < d → pl k = pl' k ∧ ∀ x, x < 8 → A k x = B k x := by
  have f1 : ∀ k, k < d → ∃ j, j < d' ∧ pl' j = pl k := fun k hk => h'.first (hAB k hk) (h.lt k hk) (by rw [h.one k hk, modSelf ⟨by omega, by omega⟩]; decide) (fun x hx => h.lead k x hk hx)
  have f2 : ∀ k, k < d' → ∃ j, j < d ∧ pl j = pl' k := fun k hk => h.first (hBA k hk) (h'.lt k hk) (by rw [h'.one k hk, modSelf ⟨by omega, by omega⟩]; decide) (fun x hx => h'.lead k x hk hx)
  have g1 := mono_same h.mono h'.mono f1 f2
  have g2 := mono_same h'.mono h.mono f2 f1
  have hd : d = d' := by
    rcases Nat.lt_trichotomy d d' with e | e | e
    · exact absurd (g2 d e).1 (by omega)
    · exact e
    · exact absurd (g1 d' e).1 (by omega)
  subst hd
  refine ⟨rfl, fun k hk => ⟨(g1 k hk).2, fun x hx => ?_⟩⟩
  have e := h'.coef (hAB k hk) hx
  rw [sm_one hk (fun j hj hne => by rw [← (g1 j hj).2, h.zer j k hj hk (Ne.symm hne), Int.zero_mul]), ← (g1 k hk).2, h.one k hk, Int.one_mul, modSelf (h.res k hk x hx), modSelf (h'.res k hk x hx)] at e
  exact e

/-- All vectors of one list lie in the space of another. -/
def sub (p : Int) (A : Nat → Nat → Int) (d : Nat) (B : Nat → Nat → Int) (d' : Nat) : Prop := ∀ k, k < d → spn p B d' (A k)

theorem sub_refl (p : Int) (A : Nat → Nat → Int) (d : Nat) : sub p A d A d := fun k hk => spn_one hk

theorem sub_spn {p : Int} {A B : Nat → Nat → Int} {d d' : Nat} (h : sub p A d B d') {v : Nat → Int} (hv : spn p A d v) : spn p B d' v := by
  obtain ⟨g, hg⟩ := hv
  exact spn_sum (W := A) (y := g) h hg

theorem sub_trans {p : Int} {A B C : Nat → Nat → Int} {d d' d'' : Nat} (h : sub p A d B d') (h2 : sub p B d' C d'') : sub p A d C d'' := fun k hk => sub_spn h2 (h k hk)

theorem RF.sub {p : Int} {R : Nat → Nat → Int} {m : Nat} {pl : Nat → Nat} {d : Nat} (h : RF p R m 8 pl d 8) : sub p R d R m ∧ sub p R m R d := by
  refine ⟨fun k hk => spn_one (by have := h.dm; omega), fun k hk => ?_⟩
  by_cases e : k < d
  · exact spn_one e
  · exact spn_zero (fun x hx => by rw [h.rest k x (by omega) hk hx]; rfl)

theorem sub_swp {p : Int} {R : Nat → Nat → Int} {m a b : Nat} (ha : a < m) (hb : b < m) : sub p (swp R a b) m R m ∧ sub p R m (swp R a b) m := by
  refine ⟨fun k hk => ?_, fun k hk => ?_⟩
  · unfold swp
    split
    · exact spn_one hb
    · split
      · exact spn_one ha
      · exact spn_one hk
  · by_cases h1 : k = a
    · subst h1
      have := spn_one (p := p) (I := swp R k b) hb
      unfold swp at this ⊢
      by_cases h2 : b = k
      · subst h2; simpa using this
      · rwa [if_neg h2, if_pos rfl] at this
    · by_cases h2 : k = b
      · subst h2
        have := spn_one (p := p) (I := swp R a k) ha
        unfold swp at this ⊢
        rwa [if_pos rfl] at this
      · have := spn_one (p := p) (I := swp R a b) hk
        unfold swp at this ⊢
        rwa [if_neg h1, if_neg h2] at this

theorem sub_clr {p : Int} {R : Nat → Nat → Int} {m d c : Nat} (hp : isP p = true) (hd : d < m) (h0 : R d c % p ≠ 0) : sub p (clr p R d c) m R m ∧ sub p R m (clr p R d c) m := by
  have hi := (inv_spec hp h0).2.2
  have e1 : spn p R m (clr p R d c d) := spn_add (a := inv p (R d c)) (b := 0) (spn_one hd) (spn_one hd) (fun x _ => by unfold clr; rw [if_pos rfl, emod_idem, Int.zero_mul, Int.add_zero])
  have e2 : spn p (clr p R d c) m (R d) := spn_add (a := R d c) (b := 0) (spn_one hd) (spn_one hd) (fun x _ => by
    unfold clr
    rw [if_pos rfl, Int.zero_mul, Int.add_zero, emodR, ← Int.mul_assoc, Int.mul_comm (R d c), Int.mul_emod (_ * _), hi, Int.one_mul, emod_idem])
  refine ⟨fun k hk => ?_, fun k hk => ?_⟩
  · by_cases e : k = d
    · subst e; exact e1
    · exact spn_add (a := 1) (b := -R k c) (spn_one hk) e1 (fun x _ => by unfold clr; rw [if_neg e, if_pos rfl, emod_idem, Int.one_mul, Int.neg_mul, Int.sub_eq_add_neg])
  · by_cases e : k = d
    · subst e; exact e2
    · exact spn_add (a := 1) (b := R k c) (spn_one hk) (spn_one hd) (fun x _ => by
        unfold clr; rw [if_neg e, if_pos rfl, Int.one_mul, modAddL, Int.sub_add_cancel])

theorem RR.img {p : Int} {A : Nat → Nat → Int} {d : Nat} {pl : Nat → Nat} (h : RR p A d pl) : IMG p A d :=
  ⟨h.res, fun k hk => by rw [h.fsn hk]; exact h.lt k hk, fun k hk => by rw [h.fsn hk]; exact h.one k hk, fun k j hkj hj => by rw [h.fsn (show k < d by omega)]; exact h.zer k j (by omega) hj (by omega)⟩

/-- The reduced vector v, put among A before the row i0; the others made 0 at its first place. -/
def ins (p : Int) (A : Nat → Nat → Int) (v : Nat → Int) (q i0 : Nat) : Nat → Nat → Int := fun k =>
  if k < i0 then pl p (A k) (-(A k q)) v else if k = i0 then v else pl p (A (k - 1)) (-(A (k - 1) q)) v

theorem RR.ins {p : Int} (hp : 2 ≤ p) {A : Nat → Nat → Int} {d : Nat} {pl : Nat → Nat} (h : RR p A d pl) {v : Nat → Int} {q i0 : Nat} (hv : isRes p 8 v) (hq : q < 8) (h1 : v q = 1) (h0 : ∀ x, x < q → v x = 0) (hz : ∀ k, k < d → v (pl k) = 0)
    (hi : i0 ≤ d) (hlo : ∀ k, k < i0 → pl k < q) (hhi : ∀ k, i0 ≤ k → k < d → q < pl k) : RR p (ins p A v q i0) (d + 1) (fun k => if k < i0 then pl k else if k = i0 then q else pl (k - 1)) := by
  have row : ∀ k, k < d → ∀ x, x < 8 → (v x = 0) → Go.V.pl p (A k) (-(A k q)) v x = A k x := fun k hk x hx hvx => by
    unfold Go.V.pl; rw [hvx, Int.mul_zero, Int.add_zero]; exact modSelf (h.res k hk x hx)
  have rowq : ∀ k, k < d → Go.V.pl p (A k) (-(A k q)) v q = 0 := fun k hk => by
    unfold Go.V.pl; rw [h1, Int.mul_one, Int.add_right_neg]; rfl
  have vlead : ∀ k, i0 ≤ k → k < d → ∀ x, x < pl k → A k x = 0 := fun k _ hk x hx => h.lead k x hk hx
  refine ⟨fun k hk => ?_, fun k hk => ?_, fun k k' hkk hk' => ?_, fun k hk => ?_, fun k j hk hj hne => ?_, fun k x hk hx => ?_⟩
  · unfold Go.V.ins; split
    · exact pl_res hp _ _ _ _
    · split
      · exact hv
      · exact pl_res hp _ _ _ _
  · (try dsimp only); split
    · exact h.lt k (by omega)
    · split
      · exact hq
      · exact h.lt _ (by omega)
  · (try dsimp only)
    by_cases a1 : k' < i0
    · rw [if_pos a1, if_pos (by omega)]; exact h.mono k k' hkk (by omega)
    · rw [if_neg a1]
      by_cases a2 : k' = i0
      · rw [if_pos a2, if_pos (by omega)]; exact hlo k (by omega)
      · rw [if_neg a2]
        by_cases a3 : k < i0
        · rw [if_pos a3]; exact h.mono _ _ (by omega) (by omega)
        · rw [if_neg a3]
          by_cases a4 : k = i0
          · rw [if_pos a4]; exact hhi _ (by omega) (by omega)
          · rw [if_neg a4]; exact h.mono _ _ (by omega) (by omega)
  · unfold Go.V.ins
    (try dsimp only)
    by_cases a1 : k < i0
    · rw [if_pos a1, if_pos a1, row k (by omega) _ (h.lt k (by omega)) (hz k (by omega))]; exact h.one k (by omega)
    · rw [if_neg a1, if_neg a1]
      by_cases a2 : k = i0
      · rw [if_pos a2, if_pos a2]; exact h1
      · rw [if_neg a2, if_neg a2, row (k - 1) (by omega) _ (h.lt _ (by omega)) (hz _ (by omega))]; exact h.one _ (by omega)
  · unfold Go.V.ins
    (try dsimp only)
    have rz : ∀ a b, a < d → b < d → b ≠ a → Go.V.pl p (A b) (-(A b q)) v (pl a) = 0 := fun a b ha hb hab => by
      rw [row b hb _ (h.lt a ha) (hz a ha)]; exact h.zer a b ha hb hab
    by_cases a1 : k < i0
    · rw [if_pos a1]
      by_cases b1 : j < i0
      · rw [if_pos b1]; exact rz k j (by omega) (by omega) hne
      · rw [if_neg b1]
        by_cases b2 : j = i0
        · rw [if_pos b2]; exact hz k (by omega)
        · rw [if_neg b2]; exact rz k (j - 1) (by omega) (by omega) (by omega)
    · rw [if_neg a1]
      by_cases a2 : k = i0
      · rw [if_pos a2]
        by_cases b1 : j < i0
        · rw [if_pos b1]; exact rowq j (by omega)
        · rw [if_neg b1, if_neg (by omega)]; exact rowq _ (by omega)
      · rw [if_neg a2]
        by_cases b1 : j < i0
        · rw [if_pos b1]; exact rz _ j (by omega) (by omega) (by omega)
        · rw [if_neg b1]
          by_cases b2 : j = i0
          · rw [if_pos b2]; exact hz _ (by omega)
          · rw [if_neg b2]; exact rz _ _ (by omega) (by omega) (by omega)
  · unfold Go.V.ins
    (try dsimp only at hx)
    have rl : ∀ a, a < d → x < pl a → Go.V.pl p (A a) (-(A a q)) v x = 0 := fun a ha hxa => by
      by_cases e : x < q
      · rw [row a ha x (by have := h.lt a ha; omega) (h0 x e)]; exact h.lead a x ha hxa
      · unfold Go.V.pl
        rw [h.lead a x ha hxa, h.lead a q ha (by omega)]; simp
    by_cases a1 : k < i0
    · rw [if_pos a1] at hx ⊢; exact rl k (by omega) hx
    · rw [if_neg a1] at hx ⊢
      by_cases a2 : k = i0
      · rw [if_pos a2] at hx ⊢; exact h0 x hx
      · rw [if_neg a2] at hx ⊢; exact rl _ (by omega) hx

theorem sub_ins {p : Int} {A : Nat → Nat → Int} {d : Nat} {v : Nat → Int} {q i0 : Nat} (hi : i0 ≤ d) : sub p (ins p A v q i0) (d + 1) (snc A d v) (d + 1) ∧ sub p (snc A d v) (d + 1) (ins p A v q i0) (d + 1) := by
  have hv : spn p (snc A d v) (d + 1) v := by have := spn_one (p := p) (I := snc A d v) (show d < d + 1 by omega); unfold snc at this ⊢; rwa [if_pos rfl] at this
  have ha : ∀ k, k < d → spn p (snc A d v) (d + 1) (A k) := fun k hk => by
    have := spn_one (p := p) (I := snc A d v) (show k < d + 1 by omega)
    have e : snc A d v k = A k := by unfold snc; rw [if_neg (by omega)]
    rwa [e] at this
  have hv' : spn p (ins p A v q i0) (d + 1) v := by
    have := spn_one (p := p) (I := ins p A v q i0) (show i0 < d + 1 by omega)
    have e : ins p A v q i0 i0 = v := by unfold ins; rw [if_neg (by omega), if_pos rfl]
    rwa [e] at this
  have ha' : ∀ k, k < d → spn p (ins p A v q i0) (d + 1) (A k) := fun k hk => by
    have e : ∃ j, j < d + 1 ∧ ins p A v q i0 j = pl p (A k) (-(A k q)) v := by
      by_cases a : k < i0
      · exact ⟨k, by omega, by unfold ins; rw [if_pos a]⟩
      · exact ⟨k + 1, by omega, by unfold ins; rw [if_neg (by omega), if_neg (by omega), Nat.add_sub_cancel]⟩
    obtain ⟨j, hj, e⟩ := e
    have h1 := spn_one (p := p) (I := ins p A v q i0) hj
    rw [e] at h1
    exact spn_add (a := 1) (b := A k q) h1 hv' (fun x _ => by unfold pl; rw [Int.one_mul, modAddL, Int.neg_mul]; congr 1; omega)
  refine ⟨fun k hk => ?_, fun k hk => ?_⟩
  · have rw1 : ∀ a, a < d → spn p (snc A d v) (d + 1) (pl p (A a) (-(A a q)) v) := fun a hha => spn_add (a := 1) (b := -(A a q)) (ha a hha) hv (fun x _ => by unfold pl; rw [emod_idem, Int.one_mul])
    unfold ins; split
    · exact rw1 k (by omega)
    · split
      · exact hv
      · exact rw1 _ (by omega)
  · by_cases e : k = d
    · subst e
      have e2 : snc A k v k = v := by unfold snc; rw [if_pos rfl]
      rw [e2]; exact hv'
    · have e2 : snc A d v k = A k := by unfold snc; rw [if_neg e]
      rw [e2]; exact ha' k (by omega)

/-- The first a columns. -/
def zc (a : Nat) (R : Nat → Nat → Int) : Nat → Nat → Int := fun k x => if x < a then R k x else 0

theorem zc_swp (a : Nat) (R : Nat → Nat → Int) (x y : Nat) : zc a (swp R x y) = swp (zc a R) x y := by
  funext k z
  unfold zc swp
  by_cases e1 : k = x
  · rw [if_pos e1, if_pos e1]
  · rw [if_neg e1, if_neg e1]
    by_cases e2 : k = y
    · rw [if_pos e2, if_pos e2]
    · rw [if_neg e2, if_neg e2]

theorem zc_clr {a : Nat} (p : Int) (R : Nat → Nat → Int) (d : Nat) {c : Nat} (hc : c < a) : zc a (clr p R d c) = clr p (zc a R) d c := by
  funext k z
  have e : ∀ j, zc a R j c = R j c := fun j => by unfold zc; rw [if_pos hc]
  show (if z < a then clr p R d c k z else 0) = clr p (zc a R) d c k z
  unfold clr
  rw [e, e]
  by_cases h : z < a
  · have e2 : ∀ j, zc a R j z = R j z := fun j => by unfold zc; rw [if_pos h]
    rw [if_pos h, e2, e2]
  · have e2 : ∀ j, zc a R j z = 0 := fun j => by unfold zc; rw [if_neg h]
    rw [if_neg h, e2, e2]
    split
    · rw [Int.mul_zero]; exact (Int.zero_emod p).symm
    · rw [Int.mul_zero, Int.zero_emod, Int.mul_zero, Int.sub_zero]; exact (Int.zero_emod p).symm

/-- Two lists of one space. -/
def same (p : Int) (A : Nat → Nat → Int) (d : Nat) (B : Nat → Nat → Int) (d' : Nat) : Prop := sub p A d B d' ∧ sub p B d' A d

theorem same_refl (p : Int) (A : Nat → Nat → Int) (d : Nat) : same p A d A d := ⟨sub_refl p A d, sub_refl p A d⟩

theorem same_trans {p : Int} {A B C : Nat → Nat → Int} {d d' d'' : Nat} (h : same p A d B d') (h2 : same p B d' C d'') : same p A d C d'' := ⟨sub_trans h.1 h2.1, sub_trans h2.2 h.2⟩

theorem same_symm {p : Int} {A B : Nat → Nat → Int} {d d' : Nat} (h : same p A d B d') : same p B d' A d := ⟨h.2, h.1⟩

theorem same_congr {p : Int} {A B : Nat → Nat → Int} {d : Nat} (h : ∀ k x, k < d → x < 8 → A k x = B k x) : same p A d B d :=
  ⟨fun k hk => spn_add (a := 1) (b := 0) (spn_one hk) (spn_one hk) (fun x hx => by rw [h k x hk hx, Int.one_mul, Int.zero_mul, Int.add_zero]),
   fun k hk => spn_add (a := 1) (b := 0) (spn_one hk) (spn_one hk) (fun x hx => by rw [h k x hk hx, Int.one_mul, Int.zero_mul, Int.add_zero])⟩

theorem same_snc {p : Int} {A B : Nat → Nat → Int} {d d' : Nat} (h : same p A d B d') (v : Nat → Int) : same p (snc A d v) (d + 1) (snc B d' v) (d' + 1) := by
  have key : ∀ {A B : Nat → Nat → Int} {d d' : Nat}, sub p A d B d' → sub p (snc A d v) (d + 1) (snc B d' v) (d' + 1) := by
    intro A B d d' h k hk
    by_cases e : k = d
    · have h1 := spn_one (p := p) (I := snc B d' v) (show d' < d' + 1 by omega)
      unfold snc at h1 ⊢
      rw [if_pos rfl] at h1
      rw [if_pos e]
      exact h1
    · have h1 := spn_snc (v := v) (h k (by omega))
      have e2 : snc A d v k = A k := by unfold snc; rw [if_neg e]
      rw [e2]; exact h1
  exact ⟨key h.1, key h.2⟩

/-- Elimination keeps the space. -/
theorem zc_same_swp {p : Int} {R R0 : Nat → Nat → Int} {a m x y : Nat} (hx : x < m) (hy : y < m) (h : same p (zc a R) m (zc a R0) m) : same p (zc a (swp R x y)) m (zc a R0) m := by
  rw [zc_swp]
  exact same_trans (sub_swp hx hy) h

theorem zc_same_clr {p : Int} {R R0 : Nat → Nat → Int} {a m d c : Nat} (hp : isP p = true) (hd : d < m) (hc : c < a) (h0 : R d c % p ≠ 0) (h : same p (zc a R) m (zc a R0) m) : same p (zc a (clr p R d c)) m (zc a R0) m := by
  rw [zc_clr p R d hc]
  exact same_trans (sub_clr hp hd (by unfold zc; rw [if_pos hc]; exact h0)) h

/-- What elimination leaves is a reduced list. -/
theorem RF.rrz {p : Int} (hp : 2 ≤ p) {R : Nat → Nat → Int} {m a : Nat} {pl : Nat → Nat} {d : Nat} (ha : a ≤ 8) (h : RF p R m a pl d a) : RR p (zc a R) d pl := by
  have hm := h.dm
  refine ⟨fun k hk x hx => ?_, fun k hk => by have := h.pc k hk; omega, h.mono, fun k hk => ?_, fun k j hk hj hne => ?_, fun k x hk hx => ?_⟩
  · unfold zc; split
    · exact h.res k x (by omega) (by omega)
    · exact ⟨Int.le_refl _, by omega⟩
  · unfold zc; rw [if_pos (h.pc k hk)]; exact h.one k hk
  · unfold zc; rw [if_pos (h.pc k hk)]; exact h.zer k j hk (by omega) hne
  · unfold zc; split
    · exact h.lead k x hk hx
    · rfl

theorem RF.samez {p : Int} {R : Nat → Nat → Int} {m a : Nat} {pl : Nat → Nat} {d : Nat} (h : RF p R m a pl d a) : Go.V.same p (zc a R) d (zc a R) m := by
  have hm := h.dm
  refine ⟨fun k hk => spn_one (by omega), fun k hk => ?_⟩
  by_cases e : k < d
  · exact spn_one e
  · exact spn_zero (fun x hx => by
      unfold zc
      split
      · rw [h.rest k x (by omega) hk (by assumption)]; rfl
      · rfl)

/-- Two reduced lists that come from one list. -/
theorem RR.same {p : Int} (hp : 2 ≤ p) {A B : Nat → Nat → Int} {d d' : Nat} {pl pl' : Nat → Nat} (h : RR p A d pl) (h' : RR p B d' pl') (hs : Go.V.same p A d B d') : d = d' ∧ ∀ k, k < d → pl k = pl' k ∧ ∀ x, x < 8 → A k x = B k x :=
  h.uniq hp h' hs.1 hs.2

end Go.V
