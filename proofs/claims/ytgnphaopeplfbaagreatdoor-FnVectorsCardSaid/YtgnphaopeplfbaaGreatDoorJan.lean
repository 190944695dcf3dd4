/- Plain laws. -/
import Derived.Test.YtgnphaopeplfbaaGreatDoorJam
set_option linter.unusedSectionVars false
set_option linter.unusedVariables false
set_option linter.unusedSimpArgs false

namespace Go.V

set_option linter.unusedSimpArgs false

set_option linter.unusedVariables false

set_option maxHeartbeats 4000000

def fldC (p n : Int) : Nat → SV := fun i => match i with | 0 => .int .i64 p | _ => .int .i64 n

abbrev fld (p n : Int) : AV := .arr 2 (fldC p n)

theorem fldC_of {c : Nat → SV} {p q : Int} (h0 : c 0 = .int .i64 p) (h1 : c 1 = .int .i64 q) : ∀ i, i < 2 → c i = fldC p q i := by
  intro i hi
  match i, hi with
  | 0, _ => exact h0
  | 1, _ => exact h1

/-- Cells that are bytes. -/

theorem mulB {a b A B : Int} (h1 : 0 ≤ a) (h2 : a ≤ A) (h3 : 0 ≤ b) (h4 : b ≤ B) : 0 ≤ a * b ∧ a * b ≤ A * B :=
  ⟨Int.mul_nonneg h1 h3, Int.mul_le_mul h2 h4 h3 (by omega)⟩

/-- A prime of at most 31. -/
def isP (p : Int) : Bool := [2, 3, 5, 7, 11, 13, 17, 19, 23, 29, 31].contains p

theorem isP_le {p : Int} (h : isP p = true) : 2 ≤ p ∧ p ≤ 31 := by
  simp [isP] at h
  omega

theorem isP_nat : ∀ p : Nat, p < 32 → isP (p : Int) = (decide (2 ≤ p) && (List.range p).all fun k => decide (k < 2) || p % k != 0) := by decide +kernel

theorem isP_sq : ∀ p : Nat, p < 32 → isP (p : Int) = (decide (2 ≤ p) && (List.range 6).all fun k => decide (k < 2) || decide (p < k * k) || p % k != 0) := by decide +kernel

theorem isP_out {p : Int} (h : p < 2 ∨ 31 < p) : isP p = false := by
  cases e : isP p with
  | false => rfl
  | true => have := isP_le e; omega

/-- Found a divisor. -/
theorem isP_div {p : Int} {k : Nat} (h2 : 2 ≤ k) (hk : (k : Int) < p) (h : p % k = 0) : isP p = false := by
  by_cases h1 : p ≤ 31
  · obtain ⟨q, rfl⟩ : ∃ q : Nat, p = q := ⟨p.toNat, by omega⟩
    rw [isP_nat q (by omega), Bool.and_eq_false_iff]
    right
    rw [List.all_eq_false]
    refine ⟨k, by simp; omega, ?_⟩
    have : q % k = 0 := by exact_mod_cast h
    simp [this]; omega
  · exact isP_out (.inr (by omega))

/-- No divisor among the small ones. -/
theorem isP_yes {p : Int} (h1 : 2 ≤ p) (h2 : p ≤ 31) (h : ∀ k : Nat, 2 ≤ k → ((k * k : Nat) : Int) ≤ p → p % k ≠ 0) : isP p = true := by
  obtain ⟨q, rfl⟩ : ∃ q : Nat, p = q := ⟨p.toNat, by omega⟩
  rw [isP_sq q (by omega), Bool.and_eq_true]
  refine ⟨by simp; omega, ?_⟩
  rw [List.all_eq_true]
  intro k hk
  simp only [Bool.or_eq_true, decide_eq_true_eq, bne_iff_ne, ne_eq]
  by_cases h3 : k < 2
  · exact .inl (.inl h3)
  · by_cases h4 : q < k * k
    · exact .inl (.inr h4)
    · right
      intro h5
      exact h k (by omega) (by omega) (by exact_mod_cast h5)

theorem isP_yes' {p : Int} (h1 : 2 ≤ p) (h2 : p ≤ 31) (h : ∀ k : Nat, 2 ≤ k → (k : Int) < p → p % k ≠ 0) : isP p = true :=
  isP_yes h1 h2 fun k hk hkk => h k hk (by
    have : k * 2 ≤ k * k := Nat.mul_le_mul_left _ hk
    omega)

theorem emodR (a b p : Int) : a * (b % p) % p = a * b % p := by
  rw [Int.mul_emod, Int.emod_emod, ← Int.mul_emod]

theorem inv_any : ∀ p : Nat, p < 32 → isP (p : Int) = true → ∀ r : Nat, r < p → r ≠ 0 → (List.range p).any (fun k => k * r % p == 1) = true := by decide +kernel

theorem inv_ex {p x : Int} (hp : isP p = true) (hx : x % p ≠ 0) : ∃ k : Int, 1 ≤ k ∧ k < p ∧ k * x % p = 1 := by
  have hb := isP_le hp
  obtain ⟨q, rfl⟩ : ∃ q : Nat, p = q := ⟨p.toNat, by omega⟩
  have h1 := Int.emod_nonneg x (show (q : Int) ≠ 0 by omega)
  have h2 := Int.emod_lt_of_pos x (show (0 : Int) < q by omega)
  obtain ⟨r, hr⟩ : ∃ r : Nat, x % q = r := ⟨(x % q).toNat, by omega⟩
  have h := inv_any q (by omega) hp r (by omega) (by omega)
  simp only [List.any_eq_true, List.mem_range, beq_iff_eq] at h
  obtain ⟨k, hk, he⟩ := h
  refine ⟨k, ?_, by omega, ?_⟩
  · rcases Nat.eq_zero_or_pos k with h0 | h0
    · subst h0; simp at he
    · omega
  · rw [← emodR, hr]
    exact_mod_cast he

theorem inv_uniq {p x k k' : Int} (h1 : 0 ≤ k ∧ k < p) (h2 : 0 ≤ k' ∧ k' < p) (h : k * x % p = 1) (h' : k' * x % p = 1) : k = k' := by
  have e1 : k * (k' * x) % p = k := by rw [← emodR, h', Int.mul_one]; exact Int.emod_eq_of_lt h1.1 h1.2
  have e2 : k' * (k * x) % p = k' := by rw [← emodR, h, Int.mul_one]; exact Int.emod_eq_of_lt h2.1 h2.2
  have e3 : k * (k' * x) = k' * (k * x) := by rw [← Int.mul_assoc, Int.mul_comm k k', Int.mul_assoc]
  exact e1.symm.trans ((congrArg (· % p) e3).trans e2)

/-- The inverse of x modulo p. -/
noncomputable def theOne (Q : Int → Prop) : Int := open Classical in if h : ∃ k : Int, Q k then h.choose else 0

noncomputable def inv (p x : Int) : Int := theOne fun k => 1 ≤ k ∧ k < p ∧ k * x % p = 1

theorem inv_spec {p x : Int} (hp : isP p = true) (hx : x % p ≠ 0) : 1 ≤ inv p x ∧ inv p x < p ∧ inv p x * x % p = 1 := by
  have h := inv_ex hp hx
  unfold inv theOne
  rw [dif_pos h]
  exact h.choose_spec

theorem inv_eq {p x k : Int} (hp : isP p = true) (h1 : 1 ≤ k) (h2 : k < p) (h : k * x % p = 1) : inv p x = k := by
  have hx : x % p ≠ 0 := by
    intro h0
    rw [← emodR, h0] at h
    simp at h
  have hs := inv_spec hp hx
  exact inv_uniq ⟨by omega, hs.2.1⟩ ⟨by omega, h2⟩ hs.2.2 h

theorem tmod_facts (x p : Int) (hp : 2 ≤ p) : (x % p = 0 → x.tmod p = 0) ∧ (x % p ≠ 0 → 0 ≤ x → x.tmod p = x % p) ∧ (x % p ≠ 0 → x < 0 → x.tmod p = x % p - p) := by
  rw [Int.tmod_eq_emod]
  refine ⟨fun h => ?_, fun h h0 => ?_, fun h h0 => ?_⟩
  · rw [if_pos (.inr (Int.dvd_of_emod_eq_zero h))]; omega
  · rw [if_pos (.inl h0)]; omega
  · rw [if_neg (by intro hh; rcases hh with hh | hh; omega; exact h (Int.emod_eq_zero_of_dvd hh))]; omega

/-- The sum of the first n. -/
def sm (f : Nat → Int) : Nat → Int
  | 0 => 0
  | k + 1 => sm f k + f k

theorem sm_congr {f g : Nat → Int} : ∀ {n : Nat}, (∀ i, i < n → f i = g i) → sm f n = sm g n
  | 0, _ => rfl
  | n + 1, h => by rw [sm, sm, sm_congr (fun i hi => h i (by omega)), h n (by omega)]

theorem sm_zero {f : Nat → Int} : ∀ {n : Nat}, (∀ i, i < n → f i = 0) → sm f n = 0
  | 0, _ => rfl
  | n + 1, h => by rw [sm, sm_zero (fun i hi => h i (by omega)), h n (by omega)]; rfl

/-- What stands behind n is 0: the sum of more is the sum of n. -/
theorem sm_more {f : Nat → Int} {n : Nat} : ∀ {m : Nat}, n ≤ m → (∀ i, n ≤ i → i < m → f i = 0) → sm f m = sm f n
  | 0, h, _ => by rw [show n = 0 by omega]
  | m + 1, h, hz => by
    by_cases e : n = m + 1
    · rw [e]
    · rw [sm, sm_more (by omega) (fun i h1 h2 => hz i h1 (by omega)), hz m (by omega) (by omega), Int.add_zero]

theorem sm_emod (f : Nat → Int) (p : Int) : ∀ n : Nat, sm (fun i => f i % p) n % p = sm f n % p
  | 0 => rfl
  | n + 1 => by rw [sm, sm, Int.add_emod, sm_emod f p n, Int.emod_emod_of_dvd _ (Int.dvd_refl p), ← Int.add_emod]

theorem sm_modc {f g : Nat → Int} {p : Int} {n : Nat} (h : ∀ i, i < n → f i % p = g i % p) : sm f n % p = sm g n % p := by
  rw [← sm_emod f, ← sm_emod g, sm_congr h]

theorem sm_mul (k : Int) (f : Nat → Int) : ∀ n : Nat, k * sm f n = sm (fun i => k * f i) n
  | 0 => by simp [sm]
  | n + 1 => by rw [sm, sm, Int.mul_add, sm_mul k f n]

theorem sm_mulr (k : Int) (f : Nat → Int) (n : Nat) : sm f n * k = sm (fun i => f i * k) n := by
  rw [Int.mul_comm, sm_mul]
  exact sm_congr (fun i _ => Int.mul_comm _ _)

theorem sm_add (f g : Nat → Int) : ∀ n : Nat, sm (fun i => f i + g i) n = sm f n + sm g n
  | 0 => rfl
  | n + 1 => by simp only [sm]; rw [sm_add f g n]; omega

theorem sm_swap (f : Nat → Nat → Int) (m : Nat) : ∀ n : Nat, sm (fun i => sm (fun j => f i j) m) n = sm (fun j => sm (fun i => f i j) n) m
  | 0 => by simp only [sm]; exact (sm_zero (fun _ _ => rfl)).symm
  | n + 1 => by simp only [sm]; rw [sm_swap f m n, sm_add]

/-- All but one are 0. -/
theorem sm_one {f : Nat → Int} {j : Nat} : ∀ {n : Nat}, j < n → (∀ i, i < n → i ≠ j → f i = 0) → sm f n = f j
  | 0, h, _ => by omega
  | n + 1, h, hz => by
    rw [sm]
    by_cases e : n = j
    · subst e
      rw [sm_zero (fun i hi => hz i (by omega) (by omega)), Int.zero_add]
    · rw [hz n (by omega) e, Int.add_zero]
      exact sm_one (by omega) (fun i hi hne => hz i (by omega) hne)

theorem modAdd (a b k p : Int) : (a % p + k * (b % p)) % p = (a + k * b) % p := by
  rw [Int.add_emod, Int.emod_emod_of_dvd _ (Int.dvd_refl p), emodR, ← Int.add_emod]

theorem modAddL (a b p : Int) : (a % p + b) % p = (a + b) % p := by
  rw [Int.add_emod, Int.emod_emod_of_dvd _ (Int.dvd_refl p), ← Int.add_emod]

theorem modAddR (a b p : Int) : (a + b % p) % p = (a + b) % p := by
  rw [Int.add_emod, Int.emod_emod_of_dvd _ (Int.dvd_refl p), ← Int.add_emod]

theorem modB (a : Int) {p : Int} (hp : 2 ≤ p) : 0 ≤ a % p ∧ a % p < p := ⟨Int.emod_nonneg _ (by omega), Int.emod_lt_of_pos _ (by omega)⟩

theorem modSelf {a p : Int} (h : 0 ≤ a ∧ a < p) : a % p = a := Int.emod_eq_of_lt h.1 h.2

def sz (p n : Int) : Prop := isP p = true ∧ (1 ≤ n ∧ n ≤ 8)

/-- v has the first n places, and numbers below p. -/
def isVec (p n : Int) (v : Nat → Int) : Prop := ∀ i : Nat, i < 8 → v i < p ∧ (n ≤ i → v i = 0)

def isLin (p n s : Int) (l : Nat → Int) : Prop := ∀ i : Nat, i < 8 → isVec p s (fun x => l (8 * i + x)) ∧ (n ≤ i → ∀ x, x < 8 → l (8 * i + x) = 0)

def isTab (p n : Int) (t : Nat → Int) : Prop := ∀ i : Nat, i < 8 → isLin p n n (fun x => t (64 * i + x)) ∧ (n ≤ i → ∀ x, x < 64 → t (64 * i + x) = 0)

/-- Bytes. -/
def isBy (N : Nat) (v : Nat → Int) : Prop := ∀ i : Nat, i < N → 0 ≤ v i ∧ v i ≤ 255

/-- Numbers from 0 up to p. -/
def isRes (p : Int) (N : Nat) (v : Nat → Int) : Prop := ∀ i : Nat, i < N → 0 ≤ v i ∧ v i < p

theorem isRes.by {p : Int} {N : Nat} {v : Nat → Int} (h : isRes p N v) (hp : p ≤ 31) : isBy N v := fun i hi => by have := h i hi; omega

theorem isVec.res {p n : Int} {v : Nat → Int} (h : isVec p n v) (hb : isBy 8 v) : isRes p 8 v := fun i hi => ⟨(hb i hi).1, (h i hi).1⟩

theorem isLin.res {p n s : Int} {l : Nat → Int} (h : isLin p n s l) (hb : isBy 64 l) : isRes p 64 l := fun i hi => by
  refine ⟨(hb i hi).1, ?_⟩
  have := ((h (i / 8) (by omega)).1 (i % 8) (by omega)).1
  simpa only [show 8 * (i / 8) + i % 8 = i by omega] using this

theorem isTab.res {p n : Int} {t : Nat → Int} (h : isTab p n t) (hb : isBy 512 t) : isRes p 512 t := fun i hi => by
  refine ⟨(hb i hi).1, ?_⟩
  have := (((h (i / 64) (by omega)).1 (i % 64 / 8) (by omega)).1 (i % 8) (by omega)).1
  simpa only [show 64 * (i / 64) + (8 * (i % 64 / 8) + i % 8) = i by omega] using this

theorem isVec_zero {p n : Int} (hp : 1 ≤ p) : isVec p n (fun _ => 0) := fun _ _ => ⟨show (0 : Int) < p by omega, fun _ => rfl⟩

/-- v and k times w. -/
def pl (p : Int) (v : Nat → Int) (k : Int) (w : Nat → Int) : Nat → Int := fun x => (v x + k * w x) % p

theorem pl_res {p : Int} (hp : 2 ≤ p) (v : Nat → Int) (k : Int) (w : Nat → Int) (N : Nat) : isRes p N (pl p v k w) := fun i _ => modB _ hp

theorem pl_zero {p : Int} {v : Nat → Int} (w : Nat → Int) {N : Nat} (hv : isRes p N v) {i : Nat} (hi : i < N) : pl p v 0 w i = v i := by
  unfold pl; rw [Int.zero_mul, Int.add_zero]; exact modSelf (hv i hi)

/-- The basis element i. -/
def bas (i : Nat) : Nat → Int := fun x => if x = i then 1 else 0

/-- What a linear map makes of a vector. -/
def app (p : Int) (l v : Nat → Int) : Nat → Int := fun x => sm (fun i => v i * l (8 * i + x)) 8 % p

/-- f for the first i places, and then g. -/
def prt (f g : Nat → Int) (i : Nat) : Nat → Int := fun q => if q < i then f q else g q

theorem prt_at (f g : Nat → Int) (i : Nat) : prt f g i i = g i := by simp [prt]

theorem prt_put (f g : Nat → Int) (i q : Nat) : put1 (bys (prt f g i)) i (.int .u8 (f i)) q = bys (prt f g (i + 1)) q := by
  unfold put1 bys prt
  by_cases e : q = i
  · subst e; simp
  · rw [if_neg e]
    by_cases h : q < i
    · rw [if_pos h, if_pos (by omega)]
    · rw [if_neg h, if_neg (by omega)]

theorem prt_all (f g : Nat → Int) (n q : Nat) (h : q < n) : prt f g n q = f q := by simp [prt, h]

theorem prt_zero (f g : Nat → Int) : prt f g 0 = g := by funext q; simp [prt]

theorem splice_zero (c d : Nat → SV) (o : Nat) : splice c o 0 d = c := by
  funext q; unfold splice; rw [if_neg (by omega)]

theorem splice_put (c d : Nat → SV) (o i : Nat) : put1 (splice c o i d) (o + i) (d i) = splice c o (i + 1) d := by
  funext q
  unfold put1 splice
  by_cases e : q = o + i
  · subst e; rw [if_pos rfl, if_pos (by omega)]; congr 1; omega
  · rw [if_neg e]
    by_cases h : o ≤ q ∧ q < o + i
    · rw [if_pos h, if_pos (by omega)]
    · rw [if_neg h, if_neg (by omega)]

/-- What a linear map makes of the first m entries. -/
def apk (p : Int) (l v : Nat → Int) (m : Nat) : Nat → Int := fun x => sm (fun i => v i * l (8 * i + x)) m % p

theorem apk_zero (p : Int) (l v : Nat → Int) : apk p l v 0 = fun _ => 0 := by
  funext x; simp [apk, sm]

theorem apk_step (p : Int) (l v : Nat → Int) (i : Nat) : pl p (apk p l v i) (v i) (fun x => l (8 * i + x)) = apk p l v (i + 1) := by
  funext x; unfold pl apk; rw [modAddL]; rfl

theorem apk_res {p : Int} (hp : 2 ≤ p) (l v : Nat → Int) (i N : Nat) : isRes p N (apk p l v i) := fun _ _ => modB _ hp

theorem apk_same {p : Int} {l v : Nat → Int} {i : Nat} (h : v i = 0) : apk p l v (i + 1) = apk p l v i := by
  funext x; unfold apk; rw [sm, h, Int.zero_mul, Int.add_zero]

theorem splice_all (c : Nat → SV) (d : Nat → SV) (n q : Nat) (h : q < n) : splice c 0 n d q = d q := by
  unfold splice; rw [if_pos (by omega), Nat.sub_zero]

theorem getlt {H : Hp} {n b : Nat} {K : Blk} (hf : ∀ b, n ≤ b → H.get b = none) (hb : H.get b = some K) : b < n := by
  rcases Nat.lt_or_ge b n with h | h
  · exact h
  · rw [hf b h] at hb; cases hb

/-- The product of two vectors by the table m: rows up to i, of row i the places up to j. -/
def pk (p : Int) (m v w : Nat → Int) (n i j : Nat) : Nat → Int := fun x => (sm (fun i => sm (fun j => v i * w j * m (64 * i + 8 * j + x)) n) i + sm (fun j => v i * w j * m (64 * i + 8 * j + x)) j) % p

/-- The product of two vectors. -/
def pr (p : Int) (m v w : Nat → Int) (n : Nat) : Nat → Int := pk p m v w n n 0

theorem pk_zero (p : Int) (m v w : Nat → Int) (n : Nat) : pk p m v w n 0 0 = fun _ => 0 := by funext x; simp [pk, sm]

theorem pk_row (p : Int) (m v w : Nat → Int) (n i : Nat) : pk p m v w n i n = pk p m v w n (i + 1) 0 := by funext x; simp [pk, sm]

theorem pk_skip {p : Int} {m v w : Nat → Int} {n i : Nat} (h : v i = 0) : pk p m v w n (i + 1) 0 = pk p m v w n i 0 := by
  funext x
  unfold pk
  congr 1
  simp only [sm, h]
  rw [sm_zero (n := n) (fun j _ => by rw [Int.zero_mul, Int.zero_mul])]
  omega

theorem pk_step (p : Int) (m v w : Nat → Int) (n i j : Nat) : pl p (pk p m v w n i j) (v i * w j) (fun x => m (64 * i + 8 * j + x)) = pk p m v w n i (j + 1) := by
  funext x; unfold pl pk; rw [modAddL, sm, Int.add_assoc]

theorem pk_res {p : Int} (hp : 2 ≤ p) (m v w : Nat → Int) (n i j N : Nat) : isRes p N (pk p m v w n i j) := fun _ _ => modB _ hp

theorem pk_whole (p : Int) (m v w : Nat → Int) (n i : Nat) : pl p (pk p m v w n i 0) (v i) (apk p (fun q => m (64 * i + q)) w n) = pk p m v w n (i + 1) 0 := by
  funext x
  unfold pl pk apk
  rw [modAdd]
  simp only [sm, Int.add_zero]
  rw [sm_mul]
  congr 2
  exact sm_congr (fun j _ => by rw [Int.mul_assoc, Nat.add_assoc])

/-- An algebra or a coalgebra has the form of one: the vector u, the table m. -/
def shp (p n : Int) (u m : Nat → Int) : Prop := sz p n ∧ isVec p n u ∧ isTab p n m

/-- The cells of a Hopf table: prime, size, unit, products, counit, coproducts, antipode. -/
structure HT where
  p : Int
  n : Int
  u : Nat → Int
  m : Nat → Int
  e : Nat → Int
  c : Nat → Int
  s : Nat → Int

/-- A row of cells holds the table. -/
structure HT.At (h : HT) (K : Nat → SV) : Prop where
  p : K 0 = .int .i64 h.p
  n : K 1 = .int .i64 h.n
  u : ∀ q, q < 8 → K (2 + q) = .int .u8 (h.u q)
  m : ∀ q, q < 512 → K (10 + q) = .int .u8 (h.m q)
  e : ∀ q, q < 8 → K (522 + q) = .int .u8 (h.e q)
  c : ∀ q, q < 512 → K (530 + q) = .int .u8 (h.c q)
  s : ∀ q, q < 64 → K (1042 + q) = .int .u8 (h.s q)

/-- Its small cells are bytes. -/
structure HT.By (h : HT) : Prop where
  u : isBy 8 h.u
  m : isBy 512 h.m
  e : isBy 8 h.e
  c : isBy 512 h.c
  s : isBy 64 h.s

theorem Ext.new {H : Hp} {b : Nat} {k : Blk} (h : H.get b = none) : Ext H ((b, k) :: H) := fun b' k' hb' => by
  have hne : b ≠ b' := by intro e; subst e; rw [h] at hb'; cases hb'
  rw [Hp.get_ne _ _ hne]; exact hb'

/-- The first x rows of B, the other ones of A. -/
def rowsTo (A B : Nat → Int) (x : Nat) : Nat → Int := fun q => if q < 8 * x then B q else A q

theorem rowsTo_zero (A B : Nat → Int) : rowsTo A B 0 = A := by funext q; simp [rowsTo]

theorem rowsTo_step {A B : Nat → Int} {x : Nat} {r : Nat → Int} (h : ∀ y, y < 8 → r y = B (8 * x + y)) (q : Nat) : splice (bys (rowsTo A B x)) (8 * x) 8 (bys r) q = bys (rowsTo A B (x + 1)) q := by
  unfold splice bys rowsTo
  by_cases h1 : 8 * x ≤ q ∧ q < 8 * x + 8
  · rw [if_pos h1, if_pos (by omega), h (q - 8 * x) (by omega), show 8 * x + (q - 8 * x) = q by omega]
  · rw [if_neg h1]
    by_cases h2 : q < 8 * x
    · rw [if_pos h2, if_pos (by omega)]
    · rw [if_neg h2, if_neg (by omega)]

/-- The products with basis elements are associative. -/
def assoc (p : Int) (n : Nat) (m : Nat → Int) : Prop := ∀ i j k : Nat, i < n → j < n → k < n → ∀ q, q < 8 →
  pr p m (fun x => m (64 * i + 8 * j + x)) (bas k) n q = pr p m (bas i) (fun x => m (64 * j + 8 * k + x)) n q

def units (p : Int) (n : Nat) (u m : Nat → Int) : Prop := ∀ i : Nat, i < n → (∀ q, q < 8 → pr p m u (bas i) n q = bas i q) ∧ (∀ q, q < 8 → pr p m (bas i) u n q = bas i q)

def isAlg (p : Int) (n : Int) (u m : Nat → Int) : Prop := shp p n u m ∧ units p n.toNat u m ∧ assoc p n.toNat m

def g7 (p : Int) (m s : Nat → Int) (n : Nat) (t : Nat) : Nat → Int := pr p m (bas (t / 8)) (fun y => s (8 * (t % 8) + y)) n

theorem bas_by (k N : Nat) : isBy N (bas k) := fun i _ => by unfold bas; split <;> omega

theorem isAlg_nat {p : Int} {a : Nat} {u m : Nat → Int} : isAlg p a u m ↔ shp p a u m ∧ units p a u m ∧ assoc p a m := Iff.rfl

/-- 0 for what holds, 1 for what does not. -/
noncomputable def cd (Q : Prop) : Int := if tb Q = true then 0 else 1

theorem cd_true {Q : Prop} (h : Q) : cd Q = 0 := by unfold cd; rw [tb_true h]; rfl

theorem cd_false {Q : Prop} (h : ¬Q) : cd Q = 1 := by unfold cd; rw [tb_false h]; rfl

theorem cd_iff {Q R : Prop} (h : Q ↔ R) : cd Q = cd R := by unfold cd; rw [tb_iff h]

/-- A list of len vectors. -/
def lst (H : Hp) (v : SV) (len : Nat) (w : Nat → Int) : Prop :=
  (v = .nils ∧ len = 0) ∨ ∃ b o c K, v = .slc b o len c ∧ H.get b = some K ∧ o + 8 * len ≤ K.size ∧ ∀ q, q < 8 * len → K.c (o + q) = .int .u8 (w q)

theorem Gmodmul {p a a' b b' : Int} (h : a % p = a' % p) (g : b % p = b' % p) : a * b % p = a' * b' % p := by rw [Int.mul_emod a b, h, g, ← Int.mul_emod]

theorem Gmodadd {p a a' b b' : Int} (h : a % p = a' % p) (g : b % p = b' % p) : (a + b) % p = (a' + b') % p := by rw [Int.add_emod a b, h, g, ← Int.add_emod]

theorem Gmodsub {p a a' b b' : Int} (h : a % p = a' % p) (g : b % p = b' % p) : (a - b) % p = (a' - b') % p := by rw [Int.sub_emod a b, h, g, ← Int.sub_emod]

theorem emod_idem (a p : Int) : a % p % p = a % p := Int.emod_emod_of_dvd _ (Int.dvd_refl p)

/-- What is left of an equation, a row of n numbers and what they come to. -/
def rsd (n : Nat) (A z : Nat → Int) : Int := sm (fun c => A c * z c) n - A n

theorem rsd_lin {p a b : Int} {n : Nat} {A B C z : Nat → Int} (h : ∀ c, c ≤ n → A c % p = (a * B c + b * C c) % p) : rsd n A z % p = (a * rsd n B z + b * rsd n C z) % p := by
  unfold rsd
  rw [Gmodsub (a' := a * sm (fun c => B c * z c) n + b * sm (fun c => C c * z c) n) (b' := a * B n + b * C n) ?_ (h n (by omega))]
  · congr 1; simp only [Int.mul_sub]; omega
  · rw [sm_mul, sm_mul, ← sm_add]
    refine sm_modc (fun c hc => ?_)
    rw [Gmodmul (h c (by omega)) rfl, Int.add_mul, Int.mul_assoc, Int.mul_assoc]

/-- z solves the first m rows of n numbers. -/
def sat (p : Int) (R : Nat → Nat → Int) (m n : Nat) (z : Nat → Int) : Prop := ∀ k, k < m → rsd n (R k) z % p = 0

/-- Two rows changed for each other. -/
def swp (R : Nat → Nat → Int) (a b : Nat) : Nat → Nat → Int := fun k => if k = a then R b else if k = b then R a else R k

theorem sat_swp {p : Int} {R : Nat → Nat → Int} {m n a b : Nat} {z : Nat → Int} (ha : a < m) (hb : b < m) : sat p (swp R a b) m n z ↔ sat p R m n z := by
  constructor
  · intro h k hk
    by_cases h1 : k = a
    · subst h1
      have := h b hb
      unfold swp at this
      by_cases h2 : b = k
      · subst h2; simpa using this
      · rw [if_neg h2, if_pos rfl] at this; exact this
    · by_cases h2 : k = b
      · subst h2
        have := h a ha
        unfold swp at this
        rw [if_pos rfl] at this; exact this
      · have := h k hk
        unfold swp at this
        rw [if_neg h1, if_neg h2] at this; exact this
  · intro h k hk
    unfold swp
    split
    · exact h b hb
    · split
      · exact h a ha
      · exact h k hk

/-- The row at made 1 at the place c, and the others 0 there. -/
noncomputable def clr (p : Int) (R : Nat → Nat → Int) (at' c : Nat) : Nat → Nat → Int := fun k x =>
  if k = at' then inv p (R at' c) * R at' x % p else (R k x - R k c * (inv p (R at' c) * R at' x % p)) % p

theorem sat_clr {p : Int} {R : Nat → Nat → Int} {m n at' c : Nat} {z : Nat → Int} (hp : isP p = true) (ha : at' < m) (h0 : R at' c % p ≠ 0) : sat p (clr p R at' c) m n z ↔ sat p R m n z := by
  have hi := (inv_spec hp h0).2.2
  have e1 : rsd n (clr p R at' c at') z % p = inv p (R at' c) * rsd n (R at') z % p := by
    rw [rsd_lin (a := inv p (R at' c)) (B := R at') (b := 0) (C := R at') (fun x _ => by unfold clr; rw [if_pos rfl, emod_idem, Int.zero_mul, Int.add_zero]), Int.zero_mul, Int.add_zero]
  have e2 : ∀ k, k ≠ at' → rsd n (clr p R at' c k) z % p = (1 * rsd n (R k) z + (- R k c) * rsd n (clr p R at' c at') z) % p := fun k hk =>
    rsd_lin (fun x _ => by unfold clr; rw [if_neg hk, if_pos rfl, emod_idem, Int.one_mul, Int.neg_mul, Int.sub_eq_add_neg])
  have key : rsd n (clr p R at' c at') z % p = 0 ↔ rsd n (R at') z % p = 0 := by
    rw [e1]
    constructor
    · intro h
      have : R at' c * (inv p (R at' c) * rsd n (R at') z) % p = 0 := by rw [Int.mul_emod, h]; simp
      rw [← Int.mul_assoc, Int.mul_comm (R at' c), Int.mul_emod, hi] at this
      rw [Int.one_mul, emod_idem] at this
      exact this
    · intro h; rw [Int.mul_emod, h]; simp
  constructor
  · intro h k hk
    have h1 := key.1 (h at' ha)
    by_cases hk' : k = at'
    · subst hk'; exact h1
    · have h2 := h k hk
      rw [e2 k hk', Int.add_emod, Int.mul_emod (-R k c), h at' ha, Int.one_mul] at h2
      simpa using h2
  · intro h k hk
    by_cases hk' : k = at'
    · subst hk'; exact key.2 (h k hk)
    · rw [e2 k hk', Int.add_emod, Int.mul_emod (-R k c), key.2 (h at' ha), Int.one_mul, h k hk]
      simp

/-- Rows brought into the reduced form so far: d of m rows have their places, up to the column c. -/
structure RF (p : Int) (R : Nat → Nat → Int) (m n : Nat) (pl : Nat → Nat) (d c : Nat) : Prop where
  dm : d ≤ m
  res : ∀ k x, k < m → x ≤ n → 0 ≤ R k x ∧ R k x < p
  pc : ∀ k, k < d → pl k < c
  mono : ∀ k k', k < k' → k' < d → pl k < pl k'
  one : ∀ k, k < d → R k (pl k) = 1
  zer : ∀ k j, k < d → j < m → j ≠ k → R j (pl k) = 0
  rest : ∀ j x, d ≤ j → j < m → x < c → R j x = 0
  lead : ∀ k x, k < d → x < pl k → R k x = 0

theorem RF.zero {p : Int} {R : Nat → Nat → Int} {m n : Nat} {pl : Nat → Nat} (hR : ∀ k x, k < m → x ≤ n → 0 ≤ R k x ∧ R k x < p) : RF p R m n pl 0 0 :=
  ⟨Nat.zero_le _, hR, fun k hk => by omega, fun k k' h1 h2 => by omega, fun k hk => by omega, fun k j hk => by omega, fun j x _ _ hx => by omega, fun k x hk => by omega⟩

theorem RF.same {p : Int} {R R' : Nat → Nat → Int} {m n : Nat} {pl : Nat → Nat} {d c : Nat} (hc : c ≤ n) (h : RF p R m n pl d c) (hp : ∀ k, k < d → pl k < n) (he : ∀ k x, k < m → x ≤ n → R' k x = R k x) : RF p R' m n pl d c :=
  ⟨h.dm, fun k x hk hx => by rw [he k x hk hx]; exact h.res k x hk hx, h.pc, h.mono, fun k hk => by rw [he k _ (by have := h.dm; omega) (by have := hp k hk; omega)]; exact h.one k hk,
   fun k j hk hj hne => by rw [he j _ hj (by have := hp k hk; omega)]; exact h.zer k j hk hj hne, fun j x h1 h2 h3 => by rw [he j x h2 (by omega)]; exact h.rest j x h1 h2 h3,
   fun k x hk hx => by rw [he k x (by have := h.dm; omega) (by have := hp k hk; omega)]; exact h.lead k x hk hx⟩

/-- A column without a number. -/
theorem RF.skip {p : Int} {R : Nat → Nat → Int} {m n : Nat} {pl : Nat → Nat} {d c : Nat} (h : RF p R m n pl d c) (h0 : ∀ j, d ≤ j → j < m → R j c = 0) : RF p R m n pl d (c + 1) :=
  ⟨h.dm, h.res, fun k hk => by have := h.pc k hk; omega, h.mono, h.one, h.zer, fun j x h1 h2 h3 => by
    by_cases e : x = c
    · subst e; exact h0 j h1 h2
    · exact h.rest j x h1 h2 (by omega), h.lead⟩

/-- Two rows that have no places yet changed for each other. -/
theorem RF.swp {p : Int} {R : Nat → Nat → Int} {m n : Nat} {pl : Nat → Nat} {d c a b : Nat} (h : RF p R m n pl d c) (ha : d ≤ a) (ha' : a < m) (hb : d ≤ b) (hb' : b < m) : RF p (swp R a b) m n pl d c := by
  have e : ∀ j, j < d → Go.V.swp R a b j = R j := fun j hj => by unfold Go.V.swp; rw [if_neg (by omega), if_neg (by omega)]
  have e2 : ∀ j, d ≤ j → j < m → ∃ j', d ≤ j' ∧ j' < m ∧ Go.V.swp R a b j = R j' := fun j h1 h2 => by
    unfold Go.V.swp
    split
    · exact ⟨b, hb, hb', rfl⟩
    · split
      · exact ⟨a, ha, ha', rfl⟩
      · exact ⟨j, h1, h2, rfl⟩
  refine ⟨h.dm, fun k x hk hx => ?_, h.pc, h.mono, fun k hk => by rw [e k hk]; exact h.one k hk, fun k j hk hj hne => ?_, fun j x h1 h2 h3 => ?_, fun k x hk hx => by rw [e k hk]; exact h.lead k x hk hx⟩
  · by_cases hd : k < d
    · rw [e k hd]; exact h.res k x hk hx
    · obtain ⟨j', h1, h2, h3⟩ := e2 k (by omega) hk
      rw [h3]; exact h.res j' x h2 hx
  · by_cases hd : j < d
    · rw [e j hd]; exact h.zer k j hk hj hne
    · obtain ⟨j', h1, h2, h3⟩ := e2 j (by omega) hj
      rw [h3]; exact h.zer k j' hk h2 (by omega)
  · obtain ⟨j', h4, h5, h6⟩ := e2 j h1 h2
    rw [h6]; exact h.rest j' x h4 h5 h3

/-- The next row gets its place. -/
theorem RF.clr {p : Int} {R : Nat → Nat → Int} {m n : Nat} {pl : Nat → Nat} {d c : Nat} (hp : isP p = true) (h : RF p R m n pl d c) (hd : d < m) (hc : c < n) (h0 : R d c ≠ 0) :
    RF p (clr p R d c) m n (fun k => if k = d then c else pl k) (d + 1) (c + 1) := by
  have hb := isP_le hp
  have hr := h.res d c hd (by omega)
  have hm : R d c % p ≠ 0 := by rw [modSelf hr]; exact h0
  have hi := inv_spec hp hm
  have ed : ∀ x, R d x = 0 → Go.V.clr p R d c d x = 0 := fun x hx => by unfold Go.V.clr; rw [if_pos rfl, hx, Int.mul_zero]; rfl
  have ek : ∀ k x, k ≠ d → k < m → x ≤ n → R d x = 0 → Go.V.clr p R d c k x = R k x := fun k x hk hkm hxn hx => by
    unfold Go.V.clr; rw [if_neg hk, hx, Int.mul_zero, Int.zero_emod, Int.mul_zero, Int.sub_zero]; exact modSelf (h.res k x hkm hxn)
  have edc : Go.V.clr p R d c d c = 1 := by unfold Go.V.clr; rw [if_pos rfl]; exact hi.2.2
  refine ⟨hd, fun k x _ _ => ?_, fun k hk => ?_, fun k k' h1 h2 => ?_, fun k hk => ?_, fun k j hk hj hne => ?_, fun j x h1 h2 h3 => ?_, fun k x hk hx => ?_⟩
  · unfold Go.V.clr; split <;> exact modB _ hb.1
  · (try dsimp only); split
    · omega
    · have := h.pc k (by omega); omega
  · (try dsimp only)
    rw [if_neg (by omega)]
    split
    · exact h.pc k (by omega)
    · exact h.mono k k' h1 (by omega)
  · (try dsimp only)
    by_cases e : k = d
    · subst e; rw [if_pos rfl]; exact edc
    · rw [if_neg e]
      have h1 := h.pc k (by omega)
      rw [ek k _ e (by omega) (by omega) (h.zer k d (by omega) hd (by omega))]
      exact h.one k (by omega)
  · (try dsimp only)
    by_cases e : k = d
    · subst e
      rw [if_pos rfl]
      unfold Go.V.clr
      rw [if_neg hne, hi.2.2, Int.mul_one, Int.sub_self, Int.zero_emod]
    · rw [if_neg e]
      have h1 := h.pc k (by omega)
      have h2 := h.zer k d (by omega) hd (by omega)
      by_cases e2 : j = d
      · subst e2; exact ed _ h2
      · rw [ek j _ e2 hj (by omega) h2]; exact h.zer k j (by omega) hj hne
  · by_cases e : x = c
    · subst e
      unfold Go.V.clr
      rw [if_neg (by omega), hi.2.2, Int.mul_one, Int.sub_self, Int.zero_emod]
    · rw [ek j x (by omega) h2 (by omega) (h.rest d x (by omega) hd (by omega))]
      exact h.rest j x (by omega) h2 (by omega)
  · (try dsimp only at hx)
    by_cases e : k = d
    · subst e
      rw [if_pos rfl] at hx
      exact ed x (h.rest k x (by omega) hd hx)
    · rw [if_neg e] at hx
      have h1 := h.pc k (by omega)
      rw [ek k x e (by omega) (by omega) (h.rest d x (by omega) hd (by omega))]
      exact h.lead k x (by omega) hx

/-- The end: all columns have been gone through, or all rows have places. -/
theorem RF.done {p : Int} {R : Nat → Nat → Int} {m n : Nat} {pl : Nat → Nat} {d c : Nat} (h : RF p R m n pl d c) (hc : c ≤ n) (he : c = n ∨ d = m) : RF p R m n pl d n :=
  ⟨h.dm, h.res, fun k hk => by have := h.pc k hk; omega, h.mono, h.one, h.zer, fun j x h1 h2 h3 => by
    rcases he with rfl | rfl
    · exact h.rest j x h1 h2 h3
    · omega, h.lead⟩

/-- Equations that have a solution leave nothing behind. -/
theorem RF.solv {p : Int} {R : Nat → Nat → Int} {m n : Nat} {pl : Nat → Nat} {d : Nat} {z : Nat → Int} (h : RF p R m n pl d n) (hz : sat p R m n z) {j : Nat} (h1 : d ≤ j) (h2 : j < m) : R j n = 0 := by
  have := hz j h2
  unfold rsd at this
  rw [sm_zero (fun c hc => by rw [h.rest j c h1 h2 hc, Int.zero_mul])] at this
  have hr := h.res j n h2 (by omega)
  rw [Int.zero_sub] at this
  have h3 := Int.emod_eq_of_lt hr.1 hr.2
  have h4 : R j n % p = 0 := by
    have := Int.dvd_of_emod_eq_zero this
    exact Int.emod_eq_zero_of_dvd (Int.dvd_neg.1 this)
  omega

/-- The solution with 0 for what is free. -/
def sol (R : Nat → Nat → Int) (n : Nat) (pl : Nat → Nat) : Nat → Nat → Int
  | 0 => fun _ => 0
  | d + 1 => fun x => if x = pl d then R d n else sol R n pl d x

theorem sol_at {R : Nat → Nat → Int} {n : Nat} {pl : Nat → Nat} : ∀ {d : Nat}, (∀ k k', k < k' → k' < d → pl k < pl k') → ∀ k, k < d → sol R n pl d (pl k) = R k n
  | 0, _, k, hk => by omega
  | d + 1, hm, k, hk => by
    unfold sol
    by_cases e : k = d
    · subst e; rw [if_pos rfl]
    · rw [if_neg (by have := hm k d (by omega) (by omega); omega)]
      exact sol_at (fun k k' h1 h2 => hm k k' h1 (by omega)) k (by omega)

theorem sol_else {R : Nat → Nat → Int} {n : Nat} {pl : Nat → Nat} {x : Nat} : ∀ {d : Nat}, (∀ k, k < d → x ≠ pl k) → sol R n pl d x = 0
  | 0, _ => rfl
  | d + 1, h => by unfold sol; rw [if_neg (h d (by omega))]; exact sol_else (fun k hk => h k (by omega))

theorem sol_sat {p : Int} {R : Nat → Nat → Int} {m n : Nat} {pl : Nat → Nat} {d : Nat} (h : RF p R m n pl d n) (h0 : ∀ j, d ≤ j → j < m → R j n = 0) : sat p R m n (sol R n pl d) := by
  intro k hk
  unfold rsd
  by_cases hd : k < d
  · rw [sm_one (j := pl k) (h.pc k hd) (fun x hx hne => by
      by_cases he : ∃ k', k' < d ∧ x = pl k'
      · obtain ⟨k', h1, rfl⟩ := he
        rw [h.zer k' k h1 hk (fun e => hne (by rw [e])), Int.zero_mul]
      · rw [sol_else (fun k' h1 e => he ⟨k', h1, e⟩), Int.mul_zero]), sol_at h.mono k hd, h.one k hd]
    simp
  · rw [sm_zero (fun c hc => by rw [h.rest k c (by omega) hk hc, Int.zero_mul]), h0 k (by omega) hk]
    rfl

/-- The first place with a number that is not 0, of so many. -/
def fsn (v : Nat → Int) : Nat → Nat
  | 0 => 0
  | k + 1 => if fsn v k < k then fsn v k else if v k ≠ 0 then k else k + 1

theorem fsn_le (v : Nat → Int) : ∀ n : Nat, fsn v n ≤ n
  | 0 => Nat.le_refl _
  | n + 1 => by
    have := fsn_le v n
    unfold fsn
    split
    · omega
    · split <;> omega

theorem fsn_low (v : Nat → Int) : ∀ (n j : Nat), j < fsn v n → v j = 0
  | 0, j, h => by unfold fsn at h; omega
  | n + 1, j, h => by
    have h2 := fsn_le v n
    unfold fsn at h
    split at h
    · exact fsn_low v n j h
    · split at h
      · exact fsn_low v n j (by omega)
      · rename_i h3 h4
        by_cases e : j = n
        · subst e; exact Classical.not_not.1 h4
        · exact fsn_low v n j (by omega)

theorem fsn_hit (v : Nat → Int) : ∀ (n : Nat), fsn v n < n → v (fsn v n) ≠ 0
  | 0, h => by unfold fsn at h; omega
  | n + 1, h => by
    unfold fsn at h ⊢
    split
    · rename_i h1; exact fsn_hit v n h1
    · rename_i h1
      rw [if_neg h1] at h
      split
      · rename_i h2; exact h2
      · rename_i h2; rw [if_neg h2] at h; omega

theorem fsn_eq {v : Nat → Int} {n j : Nat} (hj : j < n) (h0 : ∀ i, i < j → v i = 0) (h1 : v j ≠ 0) : fsn v n = j := by
  have h2 := fsn_le v n
  rcases Nat.lt_trichotomy (fsn v n) j with h | h | h
  · exact absurd (h0 _ h) (fsn_hit v n (by omega))
  · exact h
  · exact absurd (fsn_low v n j h) h1

theorem fsn_all {v : Nat → Int} {n : Nat} (h0 : ∀ i, i < n → v i = 0) : fsn v n = n := by
  have h2 := fsn_le v n
  rcases Nat.lt_or_ge (fsn v n) n with h | h
  · exact absurd (h0 _ h) (fsn_hit v n h)
  · omega

/-- v less what images make of its places, one by one. -/
def rdk (p : Int) (I : Nat → Nat → Int) (v : Nat → Int) : Nat → Nat → Int
  | 0 => v
  | k + 1 => pl p (rdk p I v k) (-(rdk p I v k (fsn (I k) 8))) (I k)

/-- w with k times what leads to them, k times what has been taken from v. -/
def rdw (p : Int) (I S : Nat → Nat → Int) (v w : Nat → Int) (s : Int) : Nat → Nat → Int
  | 0 => w
  | k + 1 => pl p (rdw p I S v w s k) (s * rdk p I v k (fsn (I k) 8)) (S k)

theorem rdk_succ (p : Int) (I : Nat → Nat → Int) (v : Nat → Int) (k : Nat) : rdk p I v (k + 1) = pl p (rdk p I v k) (-(rdk p I v k (fsn (I k) 8))) (I k) := rfl

theorem rdw_succ (p : Int) (I S : Nat → Nat → Int) (v w : Nat → Int) (s : Int) (k : Nat) : rdw p I S v w s (k + 1) = pl p (rdw p I S v w s k) (s * rdk p I v k (fsn (I k) 8)) (S k) := rfl

theorem rdk_res {p : Int} (hp : 2 ≤ p) {I : Nat → Nat → Int} {v : Nat → Int} {N : Nat} (hv : isRes p N v) : ∀ k, isRes p N (rdk p I v k)
  | 0 => hv
  | k + 1 => pl_res hp _ _ _ _

theorem rdw_res {p : Int} (hp : 2 ≤ p) {I S : Nat → Nat → Int} {v w : Nat → Int} {s : Int} {N : Nat} (hw : isRes p N w) : ∀ k, isRes p N (rdw p I S v w s k)
  | 0 => hw
  | k + 1 => pl_res hp _ _ _ _

theorem rdk_same {p : Int} {I : Nat → Nat → Int} {v : Nat → Int} {k : Nat} (hp : 2 ≤ p) (hv : isRes p 8 v) (h : rdk p I v k (fsn (I k) 8) = 0) {x : Nat} (hx : x < 8) : rdk p I v (k + 1) x = rdk p I v k x := by
  rw [rdk_succ, h, Int.neg_zero]; exact pl_zero _ (rdk_res hp hv k) hx

theorem rdw_same {p : Int} {I S : Nat → Nat → Int} {v w : Nat → Int} {s : Int} {k : Nat} (hp : 2 ≤ p) (hw : isRes p 8 w) (h : rdk p I v k (fsn (I k) 8) = 0) {x : Nat} (hx : x < 8) : rdw p I S v w s (k + 1) x = rdw p I S v w s k x := by
  rw [rdw_succ, h, Int.mul_zero]; exact pl_zero _ (rdw_res hp hw k) hx

/-- Only what is said of the first m images matters. -/
theorem rdk_congr {p : Int} {I I' : Nat → Nat → Int} {v : Nat → Int} : ∀ {m : Nat}, (∀ k, k < m → I k = I' k) → rdk p I v m = rdk p I' v m
  | 0, _ => rfl
  | m + 1, h => by unfold rdk; rw [rdk_congr (m := m) (fun k hk => h k (by omega)), h m (by omega)]

/-- Images that are reduced one by one. -/
structure IMG (p : Int) (I : Nat → Nat → Int) (m : Nat) : Prop where
  res : ∀ k, k < m → isRes p 8 (I k)
  lt : ∀ k, k < m → fsn (I k) 8 < 8
  one : ∀ k, k < m → I k (fsn (I k) 8) = 1
  tri : ∀ k j, k < j → j < m → I j (fsn (I k) 8) = 0

theorem rdk_zero {p : Int} (hp : 2 ≤ p) {I : Nat → Nat → Int} {m : Nat} {v : Nat → Int} (h : IMG p I m) : ∀ k j, j < k → k ≤ m → rdk p I v k (fsn (I j) 8) = 0
  | 0, j, h1, _ => by omega
  | k + 1, j, h1, h2 => by
    rw [rdk_succ]
    unfold pl
    by_cases e : j = k
    · subst e; rw [h.one j (by omega), Int.mul_one, Int.add_right_neg]; rfl
    · rw [rdk_zero hp h k j (by omega) (by omega), h.tri j k (by omega) (by omega), Int.mul_zero]; rfl

/-- v is a sum of numbers times images. -/
def spn (p : Int) (I : Nat → Nat → Int) (m : Nat) (v : Nat → Int) : Prop := ∃ g : Nat → Int, ∀ x, x < 8 → v x % p = sm (fun k => g k * I k x) m % p

theorem spn_add {p : Int} {I : Nat → Nat → Int} {m : Nat} {u v w : Nat → Int} {a b : Int} (hu : spn p I m u) (hv : spn p I m v) (h : ∀ x, x < 8 → w x % p = (a * u x + b * v x) % p) : spn p I m w := by
  obtain ⟨g, hg⟩ := hu
  obtain ⟨e, he⟩ := hv
  refine ⟨fun k => a * g k + b * e k, fun x hx => ?_⟩
  rw [h x hx, Gmodadd (Gmodmul rfl (hg x hx)) (Gmodmul rfl (he x hx)), sm_mul, sm_mul, ← sm_add]
  refine congrArg (· % p) (sm_congr (fun k _ => ?_))
  rw [Int.add_mul, Int.mul_assoc, Int.mul_assoc]

theorem spn_zero {p : Int} {I : Nat → Nat → Int} {m : Nat} {v : Nat → Int} (h : ∀ x, x < 8 → v x % p = 0) : spn p I m v :=
  ⟨fun _ => 0, fun x hx => by rw [h x hx, sm_zero (fun k _ => Int.zero_mul _)]; rfl⟩

theorem spn_one {p : Int} {I : Nat → Nat → Int} {m k : Nat} (hk : k < m) : spn p I m (I k) :=
  ⟨fun j => if j = k then 1 else 0, fun x _ => by rw [sm_one hk (fun i _ hi => by (try dsimp only); rw [if_neg hi, Int.zero_mul])]; (try dsimp only); rw [if_pos rfl, Int.one_mul]⟩

theorem spn_sum {p : Int} {I : Nat → Nat → Int} {m : Nat} {W : Nat → Nat → Int} {y : Nat → Int} : ∀ {r : Nat} {v : Nat → Int}, (∀ i, i < r → spn p I m (W i)) → (∀ x, x < 8 → v x % p = sm (fun i => y i * W i x) r % p) → spn p I m v
  | 0, v, _, hv => spn_zero (fun x hx => by rw [hv x hx]; rfl)
  | r + 1, v, hW, hv => by
    have h1 := spn_sum (r := r) (v := fun x => sm (fun i => y i * W i x) r) (fun i hi => hW i (by omega)) (fun x hx => rfl)
    refine spn_add (a := 1) (b := y r) h1 (hW r (by omega)) (fun x hx => ?_)
    rw [hv x hx, sm, Int.one_mul]

/-- What has been reduced, and is of the space, is 0. -/
theorem spn_none {p : Int} {I : Nat → Nat → Int} {m : Nat} {v : Nat → Int} (h : IMG p I m) (hv : spn p I m v) (h0 : ∀ k, k < m → v (fsn (I k) 8) = 0) {x : Nat} (hx : x < 8) : v x % p = 0 := by
  obtain ⟨g, hg⟩ := hv
  have key : ∀ k, k < m → g k % p = 0 := by
    intro k
    induction k using Nat.strongRecOn with
    | _ k ih =>
      intro hk
      have e := hg _ (h.lt k hk)
      rw [h0 k hk, sm_modc (g := fun j => if j = k then g k else 0) (fun j hj => by
        by_cases h1 : j = k
        · subst h1; rw [h.one j hk, if_pos rfl, Int.mul_one]
        · rw [if_neg h1]
          by_cases h2 : j < k
          · rw [Int.mul_emod, ih j h2 hj, Int.zero_mul]
          · rw [h.tri k j (by omega) hj, Int.mul_zero]), sm_one hk (fun j _ hj => by rw [if_neg hj])] at e
      rw [if_pos rfl] at e
      rw [← e]; rfl
  rw [hg x hx, sm_modc (g := fun _ => 0) (fun k hk => by rw [Int.mul_emod, key k hk, Int.zero_mul]), sm_zero (fun _ _ => rfl)]
  rfl

theorem rdk_spn {p : Int} {I : Nat → Nat → Int} {m : Nat} {v : Nat → Int} (hv : spn p I m v) : ∀ k, k ≤ m → spn p I m (rdk p I v k)
  | 0, _ => hv
  | k + 1, h => spn_add (a := 1) (rdk_spn hv k (by omega)) (spn_one (k := k) (by omega)) (fun x _ => by rw [rdk_succ]; unfold pl; rw [emod_idem, Int.one_mul])

/-- What is reduced and not 0 is not of the space: with it, v is. -/
theorem rdk_back {p : Int} {I : Nat → Nat → Int} {v : Nat → Int} {m : Nat} : ∀ k, k ≤ m → spn p I m (rdk p I v k) → spn p I m v
  | 0, _, h => h
  | k + 1, hk, h => rdk_back k (by omega) (spn_add (a := 1) (b := rdk p I v k (fsn (I k) 8)) h (spn_one (k := k) (by omega)) (fun x _ => by
      rw [rdk_succ]
      unfold pl
      rw [Int.one_mul, modAddL, Int.neg_mul]
      congr 1; omega))

/-- Images of n rows of f and what leads to them. -/
structure SRC (p : Int) (f : Nat → Int) (n : Nat) (I S : Nat → Nat → Int) (m i : Nat) : Prop extends IMG p I m where
  mi : m ≤ i
  sres : ∀ k, k < m → isRes p 8 (S k)
  ssz : ∀ k x, k < m → x < 8 → n ≤ x → S k x = 0
  src : ∀ k x, k < m → x < 8 → I k x = app p f (S k) x
  gen : ∀ r, r < i → spn p I m (fun x => f (8 * r + x))

theorem app_pl {p : Int} {f u v w : Nat → Int} {k : Int} (h : ∀ x, x < 8 → w x % p = (u x + k * v x) % p) (x : Nat) : app p f w x = (app p f u x + k * app p f v x) % p := by
  unfold app
  rw [modAdd, sm_mul, ← sm_add]
  refine sm_modc (fun i hi => ?_)
  rw [Gmodmul (h i hi) rfl, Int.add_mul, Int.mul_assoc]

theorem pl_app {p : Int} {f u v : Nat → Int} {k : Int} (x : Nat) : app p f (pl p u k v) x = pl p (app p f u) k (app p f v) x :=
  app_pl (fun x _ => by unfold pl; exact emod_idem _ _) x

/-- What has been taken from v is the image of what has been put to w. -/
theorem rdw_src {p : Int} {f : Nat → Int} {n m i : Nat} {I S : Nat → Nat → Int} (h : SRC p f n I S m i) {v w : Nat → Int} {s : Int} {x : Nat} (hx : x < 8) : ∀ k, k ≤ m → (app p f (rdw p I S v w s k) x + s * rdk p I v k x) % p = (app p f w x + s * v x) % p
  | 0, _ => rfl
  | k + 1, hk => by
    rw [← rdw_src h (v := v) (w := w) (s := s) hx k (by omega)]
    rw [rdw_succ, rdk_succ, pl_app]
    unfold pl
    rw [modAddL, ← modAddR _ (s * _), emodR, modAddR, ← h.src k x (by omega) hx, Int.mul_add]
    congr 1
    generalize rdk p I v k (fsn (I k) 8) = t
    rw [Int.neg_mul, Int.mul_neg, Int.mul_assoc]
    omega

theorem rdw_sz {p : Int} {f : Nat → Int} {n m i : Nat} {I S : Nat → Nat → Int} (h : SRC p f n I S m i) {v w : Nat → Int} {s : Int} (hw : ∀ x, x < 8 → n ≤ x → w x = 0) {x : Nat} (hx : x < 8) (hn : n ≤ x) : ∀ k, k ≤ m → rdw p I S v w s k x = 0
  | 0, _ => hw x hx hn
  | k + 1, hk => by
    rw [rdw_succ]
    unfold pl
    rw [rdw_sz h hw hx hn k (by omega), h.ssz k x (by omega) hx hn, Int.mul_zero]; rfl

/-- So many functions and one more. -/
def snc (I : Nat → Nat → Int) (m : Nat) (v : Nat → Int) : Nat → Nat → Int := fun k => if k = m then v else I k

theorem SRC.zero {p : Int} (f : Nat → Int) (n : Nat) (I S : Nat → Nat → Int) : SRC p f n I S 0 0 :=
  { res := fun k h => by omega, lt := fun k h => by omega, one := fun k h => by omega, tri := fun k j h1 h2 => by omega, mi := Nat.le_refl _, sres := fun k h => by omega, ssz := fun k x h => by omega, src := fun k x h => by omega, gen := fun r h => by omega }

/-- A row of the space. -/
theorem SRC.ker {p : Int} {f : Nat → Int} {n m i : Nat} {I S : Nat → Nat → Int} (h : SRC p f n I S m i) (h0 : ∀ x, x < 8 → rdk p I (fun x => f (8 * i + x)) m x = 0) : SRC p f n I S m (i + 1) :=
  { h with
    mi := by have := h.mi; omega
    gen := fun r hr => by
      by_cases e : r = i
      · subst e; exact rdk_back m (Nat.le_refl _) (spn_zero (fun x hx => by rw [h0 x hx]; rfl))
      · exact h.gen r (by omega) }

theorem fsn_cong {v w : Nat → Int} : ∀ {n : Nat}, (∀ x, x < n → (v x = 0 ↔ w x = 0)) → fsn v n = fsn w n
  | 0, _ => rfl
  | n + 1, h => by
    unfold fsn
    rw [fsn_cong (n := n) (fun x hx => h x (by omega))]
    have := h n (by omega)
    by_cases e : v n = 0
    · rw [if_neg (show ¬v n ≠ 0 from fun q => q e), if_neg (show ¬w n ≠ 0 from fun q => q (this.1 e))]
    · rw [if_pos e, if_pos (fun q => e (this.2 q))]

theorem spn_snc {p : Int} {I : Nat → Nat → Int} {m : Nat} {v u : Nat → Int} (h : spn p I m u) : spn p (snc I m v) (m + 1) u := by
  obtain ⟨g, hg⟩ := h
  refine ⟨fun k => if k < m then g k else 0, fun x hx => ?_⟩
  rw [hg x hx, sm]
  (try dsimp only)
  rw [if_neg (by omega), Int.zero_mul, Int.add_zero]
  exact congrArg (· % p) (sm_congr (fun i hi => by (try dsimp only); unfold snc; rw [if_pos hi, if_neg (by omega)]))

/-- A row that is not of the space: a new image. -/
theorem SRC.img {p : Int} (hp : isP p = true) {f : Nat → Int} {n m i : Nat} {I S : Nat → Nat → Int} (h : SRC p f n I S m i) (hi : i < n) (hn : n ≤ 8) (hf : isRes p 64 f) (u w : Nat → Int)
    (hu : u = rdk p I (fun x => f (8 * i + x)) m) (hw : w = rdw p I S (fun x => f (8 * i + x)) (bas i) (-1) m) (h0 : fsn u 8 < 8) :
    SRC p f n (snc I m (pl p (fun _ => 0) (inv p (u (fsn u 8))) u)) (snc S m (pl p (fun _ => 0) (inv p (u (fsn u 8))) w)) (m + 1) (i + 1) := by
  have hb := isP_le hp
  have hru : isRes p 8 u := by rw [hu]; exact rdk_res hb.1 (fun x hx => hf _ (by omega)) m
  have hne := fsn_hit u 8 h0
  have hm0 : u (fsn u 8) % p ≠ 0 := by rw [modSelf (hru _ h0)]; exact hne
  have hv := inv_spec hp hm0
  have hz : ∀ x, x < 8 → (pl p (fun _ => 0) (inv p (u (fsn u 8))) u x = 0 ↔ u x = 0) := fun x hx => by
    unfold pl
    rw [Int.zero_add]
    constructor
    · intro e
      have : u (fsn u 8) * (inv p (u (fsn u 8)) * u x) % p = 0 := by rw [Int.mul_emod, e]; simp
      rw [← Int.mul_assoc, Int.mul_comm (u (fsn u 8)), Int.mul_emod, hv.2.2, Int.one_mul, emod_idem, modSelf (hru x hx)] at this
      exact this
    · intro e; rw [e, Int.mul_zero]; rfl
  have hfs : fsn (pl p (fun _ => 0) (inv p (u (fsn u 8))) u) 8 = fsn u 8 := fsn_cong hz
  have e1 : ∀ k, k < m → snc I m (pl p (fun _ => 0) (inv p (u (fsn u 8))) u) k = I k := fun k hk => by unfold snc; rw [if_neg (by omega)]
  have e2 : ∀ k, k < m → snc S m (pl p (fun _ => 0) (inv p (u (fsn u 8))) w) k = S k := fun k hk => by unfold snc; rw [if_neg (by omega)]
  have e3 : snc I m (pl p (fun _ => 0) (inv p (u (fsn u 8))) u) m = pl p (fun _ => 0) (inv p (u (fsn u 8))) u := by unfold snc; rw [if_pos rfl]
  have e4 : snc S m (pl p (fun _ => 0) (inv p (u (fsn u 8))) w) m = pl p (fun _ => 0) (inv p (u (fsn u 8))) w := by unfold snc; rw [if_pos rfl]
  have hsp : spn p (snc I m (pl p (fun _ => 0) (inv p (u (fsn u 8))) u)) (m + 1) u := spn_add (a := u (fsn u 8)) (b := 0) (spn_one (k := m) (by omega)) (spn_one (k := m) (by omega)) (fun x hx => by
    rw [e3]
    unfold pl
    rw [Int.zero_add, Int.zero_mul, Int.add_zero, emodR, ← Int.mul_assoc, Int.mul_comm (u (fsn u 8)), Int.mul_emod, hv.2.2, Int.one_mul, emod_idem])
  have hwsz : ∀ x, x < 8 → n ≤ x → w x = 0 := fun x hx hnx => by
    rw [hw]; exact rdw_sz h (fun y hy hny => by unfold bas; rw [if_neg (by omega)]) hx hnx m (Nat.le_refl _)
  refine { res := fun k hk => ?_, lt := fun k hk => ?_, one := fun k hk => ?_, tri := fun k j hkj hj => ?_, mi := by have := h.mi; omega, sres := fun k hk => ?_, ssz := fun k x hk hx hnx => ?_, src := fun k x hk hx => ?_, gen := fun r hr => ?_ }
  · by_cases e : k = m
    · subst e; rw [e3]; exact pl_res hb.1 _ _ _ _
    · rw [e1 k (by omega)]; exact h.res k (by omega)
  · by_cases e : k = m
    · subst e; rw [e3, hfs]; exact h0
    · rw [e1 k (by omega)]; exact h.lt k (by omega)
  · by_cases e : k = m
    · subst e; rw [e3, hfs]; unfold pl; rw [Int.zero_add]; exact hv.2.2
    · rw [e1 k (by omega)]; exact h.one k (by omega)
  · rw [e1 k (by omega)]
    by_cases e : j = m
    · subst e
      rw [e3]
      unfold pl
      rw [show u (fsn (I k) 8) = 0 by rw [hu]; exact rdk_zero hb.1 h.toIMG j k hkj (Nat.le_refl _), Int.mul_zero]; rfl
    · rw [e1 j (by omega)]; exact h.tri k j hkj (by omega)
  · by_cases e : k = m
    · subst e; rw [e4]; exact pl_res hb.1 _ _ _ _
    · rw [e2 k (by omega)]; exact h.sres k (by omega)
  · by_cases e : k = m
    · subst e; rw [e4]; unfold pl; rw [hwsz x hx hnx, Int.mul_zero]; rfl
    · rw [e2 k (by omega)]; exact h.ssz k x (by omega) hx hnx
  · by_cases e : k = m
    · subst e
      rw [e3, e4, pl_app]
      have e5 := rdw_src h (v := fun x => f (8 * i + x)) (w := bas i) (s := -1) hx k (Nat.le_refl _)
      rw [← hu, ← hw] at e5
      have e6 : app p f (bas i) x = f (8 * i + x) % p := by
        unfold app; rw [sm_one (j := i) (by omega) (fun j _ hj => by unfold bas; rw [if_neg hj, Int.zero_mul])]; unfold bas; rw [if_pos rfl, Int.one_mul]
      rw [e6, modAddL] at e5
      have e7 : app p f w x % p = u x % p := by
        have := Gmodadd e5 (show u x % p = u x % p from rfl)
        rw [show app p f w x + -1 * u x + u x = app p f w x by omega, show f (8 * i + x) + -1 * f (8 * i + x) + u x = u x by omega] at this
        exact this
      unfold pl
      have e8 : app p f (fun _ => 0) x = 0 := by unfold app; rw [sm_zero (fun i _ => by rw [Int.zero_mul])]; rfl
      rw [e8]
      exact Gmodadd rfl (Gmodmul rfl e7.symm)
    · rw [e1 k (by omega), e2 k (by omega)]; exact h.src k x (by omega) hx
  · by_cases e : r = i
    · subst e
      refine rdk_back (m := m + 1) m (by omega) ?_
      rw [rdk_congr (I' := I) e1, ← hu]
      exact hsp
    · exact spn_snc (h.gen r (by omega))

/-- What is lifted: v has an image among those of n rows just if nothing is left of it. -/
theorem lift_none {p : Int} (hp : 2 ≤ p) {f : Nat → Int} {n m : Nat} {I S : Nat → Nat → Int} (h : SRC p f n I S m n) {v y : Nat → Int} (hv : isRes p 8 v) (hy : ∀ x, x < 8 → v x % p = sm (fun r => y r * f (8 * r + x)) n % p) {x : Nat} (hx : x < 8) :
    rdk p I v m x = 0 := by
  have h1 := spn_none h.toIMG (rdk_spn (spn_sum (W := fun r x => f (8 * r + x)) (fun r hr => h.gen r hr) hy) m (Nat.le_refl _)) (fun k hk => rdk_zero hp h.toIMG m k hk (Nat.le_refl _)) hx
  rwa [modSelf (rdk_res hp hv m x hx)] at h1

theorem lift_app {p : Int} (hp : 2 ≤ p) {f : Nat → Int} {n m i : Nat} {I S : Nat → Nat → Int} (h : SRC p f n I S m i) {v : Nat → Int} (hv : isRes p 8 v) (h0 : ∀ x, x < 8 → rdk p I v m x = 0) {x : Nat} (hx : x < 8) :
    app p f (rdw p I S v (fun _ => 0) 1 m) x = v x := by
  have e := rdw_src h (v := v) (w := fun _ => 0) (s := 1) hx m (Nat.le_refl _)
  rw [h0 x hx, Int.mul_zero, Int.add_zero, show app p f (fun _ => 0) x = 0 by unfold app; rw [sm_zero (fun i _ => by rw [Int.zero_mul])]; rfl, Int.zero_add, Int.one_mul, modSelf (hv x hx)] at e
  rw [← e]
  unfold app
  rw [emod_idem]

/-- d vectors, reduced, with their first places. -/
structure RR (p : Int) (A : Nat → Nat → Int) (d : Nat) (pl : Nat → Nat) : Prop where
  res : ∀ k, k < d → isRes p 8 (A k)
  lt : ∀ k, k < d → pl k < 8
  mono : ∀ k k', k < k' → k' < d → pl k < pl k'
  one : ∀ k, k < d → A k (pl k) = 1
  zer : ∀ k j, k < d → j < d → j ≠ k → A j (pl k) = 0
  lead : ∀ k x, k < d → x < pl k → A k x = 0

theorem RR.fsn {p : Int} {A : Nat → Nat → Int} {d : Nat} {pl : Nat → Nat} (h : RR p A d pl) {k : Nat} (hk : k < d) : fsn (A k) 8 = pl k :=
  fsn_eq (h.lt k hk) (fun i hi => h.lead k i hk hi) (by rw [h.one k hk]; decide)

theorem RR.coef {p : Int} {A : Nat → Nat → Int} {d : Nat} {pl : Nat → Nat} (h : RR p A d pl) {v : Nat → Int} (hv : spn p A d v) {x : Nat} (hx : x < 8) : v x % p = sm (fun k => v (pl k) * A k x) d % p := by
  obtain ⟨g, hg⟩ := hv
  rw [hg x hx]
  refine sm_modc (fun k hk => Gmodmul ?_ rfl)
  rw [hg _ (h.lt k hk), sm_one hk (fun j hj hne => by rw [h.zer k j hk hj hne, Int.mul_zero]), h.one k hk, Int.mul_one]

/-- The first place of a vector of the space is one of the places. -/
theorem RR.first {p : Int} {A : Nat → Nat → Int} {d : Nat} {pl : Nat → Nat} (h : RR p A d pl) {v : Nat → Int} (hv : spn p A d v) {q : Nat} (hq : q < 8) (h1 : v q % p ≠ 0) (h0 : ∀ x, x < q → v x = 0) : ∃ k, k < d ∧ pl k = q := by
  apply Classical.byContradiction
  intro hn
  refine h1 ?_
  rw [h.coef hv hq, sm_zero (fun k hk => ?_)]; rfl
  rcases Nat.lt_trichotomy (pl k) q with e | e | e
  · rw [h0 _ e, Int.zero_mul]
  · exact absurd ⟨k, hk, e⟩ hn
  · rw [h.lead k q hk e, Int.mul_zero]

theorem mono_same {a b : Nat → Nat} {d d' : Nat} (ha : ∀ k k', k < k' → k' < d → a k < a k') (hb : ∀ k k', k < k' → k' < d' → b k < b k') (h1 : ∀ k, k < d → ∃ j, j < d' ∧ b j = a k) (h2 : ∀ k, k < d' → ∃ j, j < d ∧ a j = b k) :
    ∀ k, k < d → k < d' ∧ a k = b k := by
  intro k
  induction k using Nat.strongRecOn with
  | _ k ih =>
    intro hk
    obtain ⟨i, hi, e⟩ := h1 k hk
    have hik : k ≤ i := by
      rcases Nat.lt_or_ge i k with h | h
      · have := ih i h (by omega)
        have := ha i k h hk
        omega
      · exact h
    have hkd : k < d' := by omega
    obtain ⟨i', hi', e'⟩ := h2 k hkd
    have hik' : k ≤ i' := by
      rcases Nat.lt_or_ge i' k with h | h
      · have h3 := ih i' h (by omega)
        have := hb i' k h hkd
        omega
      · exact h
    refine ⟨hkd, ?_⟩
    have e1 : b k ≤ b i := by
      rcases Nat.lt_or_ge k i with h | h
      · exact Nat.le_of_lt (hb k i h hi)
      · rw [show i = k by omega]; exact Nat.le_refl _
    have e2 : a k ≤ a i' := by
      rcases Nat.lt_or_ge k i' with h | h
      · exact Nat.le_of_lt (ha k i' h hi')
      · rw [show i' = k by omega]; exact Nat.le_refl _
    omega

/-- Two reduced lists of one space are the same. -/
theorem RR.uniq {p : Int} (hp : 2 ≤ p) {A B : Nat → Nat → Int} {d d' : Nat} {pl pl' : Nat → Nat} (h : RR p A d pl) (h' : RR p B d' pl') (hAB : ∀ k, k < d → spn p B d' (A k)) (hBA : ∀ k, k < d' → spn p A d (B k)) :
    d = d' ∧ ∀ k, k < d → pl k = pl' k ∧ ∀ x, x < 8 → A k x = B k x := by
  have f1 : ∀ k, k < d → ∃ j, j < d' ∧ pl' j = pl k := fun k hk => h'.first (hAB k hk) (h.lt k hk) (by rw [h.one k hk, modSelf ⟨by omega, by omega⟩]; decide) (fun x hx => h.lead k x hk hx)
  have f2 : ∀ k, k < d' → ∃ j, j < d ∧ pl j = pl' k := fun k hk => h.first (hBA k hk) (h'.lt k hk) (by rw [h'.one k hk, modSelf ⟨by omega, by omega⟩]; decide) (fun x hx => h'.lead k x hk hx)
  have g1 := mono_same h.mono h'.mono f1 f2
  have g2 := mono_same h'.mono h.mono f2 f1
  have hd : d = d' := by
    rcases Nat.lt_trichotomy d d' with e | e | e
    · exact absurd (g2 d e).1 (by omega)
    · exact e
    · exact absurd (g1 d' e).1 (by omega)
  subst hd
  refine ⟨rfl, fun k hk => ⟨(g1 k hk).2, fun x hx => ?_⟩⟩
  have e := h'.coef (hAB k hk) hx
  rw [sm_one hk (fun j hj hne => by rw [← (g1 j hj).2, h.zer j k hj hk (Ne.symm hne), Int.zero_mul]), ← (g1 k hk).2, h.one k hk, Int.one_mul, modSelf (h.res k hk x hx), modSelf (h'.res k hk x hx)] at e
  exact e

/-- All vectors of one list lie in the space of another. -/
def sub (p : Int) (A : Nat → Nat → Int) (d : Nat) (B : Nat → Nat → Int) (d' : Nat) : Prop := ∀ k, k < d → spn p B d' (A k)

theorem RF.sub {p : Int} {R : Nat → Nat → Int} {m : Nat} {pl : Nat → Nat} {d : Nat} (h : RF p R m 8 pl d 8) : sub p R d R m ∧ sub p R m R d := by
  refine ⟨fun k hk => spn_one (by have := h.dm; omega), fun k hk => ?_⟩
  by_cases e : k < d
  · exact spn_one e
  · exact spn_zero (fun x hx => by rw [h.rest k x (by omega) hk hx]; rfl)

theorem RR.img {p : Int} {A : Nat → Nat → Int} {d : Nat} {pl : Nat → Nat} (h : RR p A d pl) : IMG p A d :=
  ⟨h.res, fun k hk => by rw [h.fsn hk]; exact h.lt k hk, fun k hk => by rw [h.fsn hk]; exact h.one k hk, fun k j hkj hj => by rw [h.fsn (show k < d by omega)]; exact h.zer k j (by omega) hj (by omega)⟩

/-- Two lists of one space. -/
def same (p : Int) (A : Nat → Nat → Int) (d : Nat) (B : Nat → Nat → Int) (d' : Nat) : Prop := sub p A d B d' ∧ sub p B d' A d

/-- Two reduced lists that come from one list. -/
theorem RR.same {p : Int} (hp : 2 ≤ p) {A B : Nat → Nat → Int} {d d' : Nat} {pl pl' : Nat → Nat} (h : RR p A d pl) (h' : RR p B d' pl') (hs : Go.V.same p A d B d') : d = d' ∧ ∀ k, k < d → pl k = pl' k ∧ ∀ x, x < 8 → A k x = B k x :=
  h.uniq hp h' hs.1 hs.2

end Go.V
