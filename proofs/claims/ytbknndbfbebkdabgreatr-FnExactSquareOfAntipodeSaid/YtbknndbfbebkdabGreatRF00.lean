/- Plain laws. -/
import Derived.Test.YtbknndbfbebkdabGreatRR
namespace Go.V
set_option linter.unusedSimpArgs false
set_option linter.unusedVariables false
set_option maxHeartbeats 4000000
def fldC (p n : Int) : Nat → SV := fun i => match i with | 0 => .int .i64 p | _ => .int .i64 n
abbrev fld (p n : Int) : AV := .arr 2 (fldC p n)
theorem fldC_of {c : Nat → SV} {p q : Int} (h0 : c 0 = .int .i64 p) (h1 : c 1 = .int .i64 q) : ∀ i, i < 2 → c i = fldC p q i := by
  intro i hi
  match i, hi with
  | 0, _ => exact h0
  | 1, _ => exact h1
/-- Cells that are bytes. -/

theorem mulB {a b A B : Int} (h1 : 0 ≤ a) (h2 : a ≤ A) (h3 : 0 ≤ b) (h4 : b ≤ B) : 0 ≤ a * b ∧ a * b ≤ A * B :=
  ⟨Int.mul_nonneg h1 h3, Int.mul_le_mul h2 h4 h3 (by omega)⟩
/-- A prime of at most 31. -/
def isP (p : Int) : Bool := [2, 3, 5, 7, 11, 13, 17, 19, 23, 29, 31].contains p
theorem isP_le {p : Int} (h : isP p = true) : 2 ≤ p ∧ p ≤ 31 := by
  simp [isP] at h
  omega
theorem isP_nat : ∀ p : Nat, p < 32 → isP (p : Int) = (decide (2 ≤ p) && (List.range p).all fun k => decide (k < 2) || p % k != 0) := by decide +kernel
theorem isP_sq : ∀ p : Nat, p < 32 → isP (p : Int) = (decide (2 ≤ p) && (List.range 6).all fun k => decide (k < 2) || decide (p < k * k) || p % k != 0) := by decide +kernel
theorem isP_out {p : Int} (h : p < 2 ∨ 31 < p) : isP p = false := by
  cases e : isP p with
  | false => rfl
  | true => have := isP_le e; omega
/-- Found a divisor. -/
theorem isP_div {p : Int} {k : Nat} (h2 : 2 ≤ k) (hk : (k : Int) < p) (h : p % k = 0) : isP p = false := by
  by_cases h1 : p ≤ 31
  · obtain ⟨q, rfl⟩ : ∃ q : Nat, p = q := ⟨p.toNat, by omega⟩
    rw [isP_nat q (by omega), Bool.and_eq_false_iff]
    right
    rw [List.all_eq_false]
    refine ⟨k, by simp; omega, ?_⟩
    have : q % k = 0 := by exact_mod_cast h
    simp [this]; omega
  · exact isP_out (.inr (by omega))
/-- No divisor among the small ones. -/
theorem isP_yes {p : Int} (h1 : 2 ≤ p) (h2 : p ≤ 31) (h : ∀ k : Nat, 2 ≤ k → ((k * k : Nat) : Int) ≤ p → p % k ≠ 0) : isP p = true := by
  obtain ⟨q, rfl⟩ : ∃ q : Nat, p = q := ⟨p.toNat, by omega⟩
  rw [isP_sq q (by omega), Bool.and_eq_true]
  refine ⟨by simp; omega, ?_⟩
  rw [List.all_eq_true]
  intro k hk
  simp only [Bool.or_eq_true, decide_eq_true_eq, bne_iff_ne, ne_eq]
  by_cases h3 : k < 2
  · exact .inl (.inl h3)
  · by_cases h4 : q < k * k
    · exact .inl (.inr h4)
    · right
      intro h5
      exact h k (by omega) (by omega) (by exact_mod_cast h5)
theorem isP_yes' {p : Int} (h1 : 2 ≤ p) (h2 : p ≤ 31) (h : ∀ k : Nat, 2 ≤ k → (k : Int) < p → p % k ≠ 0) : isP p = true :=
  isP_yes h1 h2 fun k hk hkk => h k hk (by
    have : k * 2 ≤ k * k := Nat.mul_le_mul_left _ hk
    omega)
theorem emodR (a b p : Int) : a * (b % p) % p = a * b % p := by
  rw [Int.mul_emod, Int.emod_emod, ← Int.mul_emod]
theorem tmod_facts (x p : Int) (hp : 2 ≤ p) : (x % p = 0 → x.tmod p = 0) ∧ (x % p ≠ 0 → 0 ≤ x → x.tmod p = x % p) ∧ (x % p ≠ 0 → x < 0 → x.tmod p = x % p - p) := by
  rw [Int.tmod_eq_emod]
  refine ⟨fun h => ?_, fun h h0 => ?_, fun h h0 => ?_⟩
  · rw [if_pos (.inr (Int.dvd_of_emod_eq_zero h))]; omega
  · rw [if_pos (.inl h0)]; omega
  · rw [if_neg (by intro hh; rcases hh with hh | hh; omega; exact h (Int.emod_eq_zero_of_dvd hh))]; omega
/-- The sum of the first n. -/
def sm (f : Nat → Int) : Nat → Int
  | 0 => 0
  | k + 1 => sm f k + f k
theorem sm_congr {f g : Nat → Int} : ∀ {n : Nat}, (∀ i, i < n → f i = g i) → sm f n = sm g n
  | 0, _ => rfl
  | n + 1, h => by rw [sm, sm, sm_congr (fun i hi => h i (by omega)), h n (by omega)]
theorem sm_zero {f : Nat → Int} : ∀ {n : Nat}, (∀ i, i < n → f i = 0) → sm f n = 0
  | 0, _ => rfl
  | n + 1, h => by rw [sm, sm_zero (fun i hi => h i (by omega)), h n (by omega)]; rfl
/-- What stands behind n is 0: the sum of more is the sum of n. -/
theorem sm_more {f : Nat → Int} {n : Nat} : ∀ {m : Nat}, n ≤ m → (∀ i, n ≤ i → i < m → f i = 0) → sm f m = sm f n
  | 0, h, _ => by rw [show n = 0 by omega]
  | m + 1, h, hz => by
    by_cases e : n = m + 1
    · rw [e]
    · rw [sm, sm_more (by omega) (fun i h1 h2 => hz i h1 (by omega)), hz m (by omega) (by omega), Int.add_zero]
theorem sm_emod (f : Nat → Int) (p : Int) : ∀ n : Nat, sm (fun i => f i % p) n % p = sm f n % p
  | 0 => rfl
  | n + 1 => by rw [sm, sm, Int.add_emod, sm_emod f p n, Int.emod_emod_of_dvd _ (Int.dvd_refl p), ← Int.add_emod]
theorem sm_modc {f g : Nat → Int} {p : Int} {n : Nat} (h : ∀ i, i < n → f i % p = g i % p) : sm f n % p = sm g n % p := by
  rw [← sm_emod f, ← sm_emod g, sm_congr h]
theorem sm_mul (k : Int) (f : Nat → Int) : ∀ n : Nat, k * sm f n = sm (fun i => k * f i) n
  | 0 => by simp [sm]
  | n + 1 => by rw [sm, sm, Int.mul_add, sm_mul k f n]
theorem sm_mulr (k : Int) (f : Nat → Int) (n : Nat) : sm f n * k = sm (fun i => f i * k) n := by
  rw [Int.mul_comm, sm_mul]
  exact sm_congr (fun i _ => Int.mul_comm _ _)
theorem sm_add (f g : Nat → Int) : ∀ n : Nat, sm (fun i => f i + g i) n = sm f n + sm g n
  | 0 => rfl
  | n + 1 => by simp only [sm]; rw [sm_add f g n]; omega
theorem sm_swap (f : Nat → Nat → Int) (m : Nat) : ∀ n : Nat, sm (fun i => sm (fun j => f i j) m) n = sm (fun j => sm (fun i => f i j) n) m
  | 0 => by simp only [sm]; exact (sm_zero (fun _ _ => rfl)).symm
  | n + 1 => by simp only [sm]; rw [sm_swap f m n, sm_add]
theorem sm_b {f : Nat → Int} {B : Int} : ∀ {n : Nat}, (∀ i, i < n → 0 ≤ f i ∧ f i ≤ B) → 0 ≤ sm f n ∧ sm f n ≤ n * B
  | 0, _ => by simp [sm]
  | n + 1, h => by
    have h1 := sm_b (n := n) (fun i hi => h i (by omega))
    have h2 := h n (by omega)
    rw [sm]
    have : ((n + 1 : Nat) : Int) * B = n * B + B := by rw [Int.natCast_add, Int.add_mul]; omega
    omega
/-- All but one are 0. -/
theorem sm_one {f : Nat → Int} {j : Nat} : ∀ {n : Nat}, j < n → (∀ i, i < n → i ≠ j → f i = 0) → sm f n = f j
  | 0, h, _ => by omega
  | n + 1, h, hz => by
    rw [sm]
    by_cases e : n = j
    · subst e
      rw [sm_zero (fun i hi => hz i (by omega) (by omega)), Int.zero_add]
    · rw [hz n (by omega) e, Int.add_zero]
      exact sm_one (by omega) (fun i hi hne => hz i (by omega) hne)
theorem modAdd (a b k p : Int) : (a % p + k * (b % p)) % p = (a + k * b) % p := by
  rw [Int.add_emod, Int.emod_emod_of_dvd _ (Int.dvd_refl p), emodR, ← Int.add_emod]
theorem modAddL (a b p : Int) : (a % p + b) % p = (a + b) % p := by
  rw [Int.add_emod, Int.emod_emod_of_dvd _ (Int.dvd_refl p), ← Int.add_emod]
theorem modAddR (a b p : Int) : (a + b % p) % p = (a + b) % p := by
  rw [Int.add_emod, Int.emod_emod_of_dvd _ (Int.dvd_refl p), ← Int.add_emod]
theorem modB (a : Int) {p : Int} (hp : 2 ≤ p) : 0 ≤ a % p ∧ a % p < p := ⟨Int.emod_nonneg _ (by omega), Int.emod_lt_of_pos _ (by omega)⟩
theorem modSelf {a p : Int} (h : 0 ≤ a ∧ a < p) : a % p = a := Int.emod_eq_of_lt h.1 h.2
def sz (p n : Int) : Prop := isP p = true ∧ (1 ≤ n ∧ n ≤ 8)
/-- v has the first n places, and numbers below p. -/
def isVec (p n : Int) (v : Nat → Int) : Prop := ∀ i : Nat, i < 8 → v i < p ∧ (n ≤ i → v i = 0)
def isLin (p n s : Int) (l : Nat → Int) : Prop := ∀ i : Nat, i < 8 → isVec p s (fun x => l (8 * i + x)) ∧ (n ≤ i → ∀ x, x < 8 → l (8 * i + x) = 0)
def isTab (p n : Int) (t : Nat → Int) : Prop := ∀ i : Nat, i < 8 → isLin p n n (fun x => t (64 * i + x)) ∧ (n ≤ i → ∀ x, x < 64 → t (64 * i + x) = 0)
/-- Bytes. -/
def isBy (N : Nat) (v : Nat → Int) : Prop := ∀ i : Nat, i < N → 0 ≤ v i ∧ v i ≤ 255
/-- Numbers from 0 up to p. -/
def isRes (p : Int) (N : Nat) (v : Nat → Int) : Prop := ∀ i : Nat, i < N → 0 ≤ v i ∧ v i < p
theorem isRes.by {p : Int} {N : Nat} {v : Nat → Int} (h : isRes p N v) (hp : p ≤ 31) : isBy N v := fun i hi => by have := h i hi; omega
/-- v and k times w. -/
def pl (p : Int) (v : Nat → Int) (k : Int) (w : Nat → Int) : Nat → Int := fun x => (v x + k * w x) % p
theorem pl_zero {p : Int} {v : Nat → Int} (w : Nat → Int) {N : Nat} (hv : isRes p N v) {i : Nat} (hi : i < N) : pl p v 0 w i = v i := by
  unfold pl; rw [Int.zero_mul, Int.add_zero]; exact modSelf (hv i hi)
/-- The basis element i. -/
def bas (i : Nat) : Nat → Int := fun x => if x = i then 1 else 0
/-- What a linear map makes of a vector. -/
def app (p : Int) (l v : Nat → Int) : Nat → Int := fun x => sm (fun i => v i * l (8 * i + x)) 8 % p
/-- The product of two vectors by the table m. -/
def prd (p : Int) (m v w : Nat → Int) : Nat → Int := fun x => sm (fun i => sm (fun j => v i * w j * m (64 * i + 8 * j + x)) 8) 8 % p
/-- f for the first i places, and then g. -/
def prt (f g : Nat → Int) (i : Nat) : Nat → Int := fun q => if q < i then f q else g q
theorem prt_at (f g : Nat → Int) (i : Nat) : prt f g i i = g i := by simp [prt]
theorem prt_put (f g : Nat → Int) (i q : Nat) : put1 (bys (prt f g i)) i (.int .u8 (f i)) q = bys (prt f g (i + 1)) q := by
  unfold put1 bys prt
  by_cases e : q = i
  · subst e; simp
  · rw [if_neg e]
    by_cases h : q < i
    · rw [if_pos h, if_pos (by omega)]
    · rw [if_neg h, if_neg (by omega)]
theorem prt_all (f g : Nat → Int) (n q : Nat) (h : q < n) : prt f g n q = f q := by simp [prt, h]
theorem prt_zero (f g : Nat → Int) : prt f g 0 = g := by funext q; simp [prt]
theorem splice_zero (c d : Nat → SV) (o : Nat) : splice c o 0 d = c := by
  funext q; unfold splice; rw [if_neg (by omega)]
theorem splice_put (c d : Nat → SV) (o i : Nat) : put1 (splice c o i d) (o + i) (d i) = splice c o (i + 1) d := by
  funext q
  unfold put1 splice
  by_cases e : q = o + i
  · subst e; rw [if_pos rfl, if_pos (by omega)]; congr 1; omega
  · rw [if_neg e]
    by_cases h : o ≤ q ∧ q < o + i
    · rw [if_pos h, if_pos (by omega)]
    · rw [if_neg h, if_neg (by omega)]
/-- What a linear map makes of the first m entries. -/
def apk (p : Int) (l v : Nat → Int) (m : Nat) : Nat → Int := fun x => sm (fun i => v i * l (8 * i + x)) m % p
theorem apk_zero (p : Int) (l v : Nat → Int) : apk p l v 0 = fun _ => 0 := by
  funext x; simp [apk, sm]
theorem apk_step (p : Int) (l v : Nat → Int) (i : Nat) : pl p (apk p l v i) (v i) (fun x => l (8 * i + x)) = apk p l v (i + 1) := by
  funext x; unfold pl apk; rw [modAddL]; rfl
theorem apk_res {p : Int} (hp : 2 ≤ p) (l v : Nat → Int) (i N : Nat) : isRes p N (apk p l v i) := fun _ _ => modB _ hp
theorem apk_same {p : Int} {l v : Nat → Int} {i : Nat} (h : v i = 0) : apk p l v (i + 1) = apk p l v i := by
  funext x; unfold apk; rw [sm, h, Int.zero_mul, Int.add_zero]
theorem apk_more {p : Int} {l v : Nat → Int} {m : Nat} (hm : m ≤ 8) (h : ∀ i : Nat, m ≤ i → i < 8 → v i = 0) : apk p l v m = app p l v := by
  funext x; unfold apk app; rw [sm_more hm (fun i h1 h2 => by rw [h i h1 h2, Int.zero_mul])]
theorem isRes_zero {p : Int} (hp : 2 ≤ p) (N : Nat) : isRes p N (fun _ => 0) := fun _ _ => ⟨Int.le_refl 0, show (0 : Int) < p by omega⟩
theorem splice_all (c : Nat → SV) (d : Nat → SV) (n q : Nat) (h : q < n) : splice c 0 n d q = d q := by
  unfold splice; rw [if_pos (by omega), Nat.sub_zero]
theorem getlt {H : Hp} {n b : Nat} {K : Blk} (hf : ∀ b, n ≤ b → H.get b = none) (hb : H.get b = some K) : b < n := by
  rcases Nat.lt_or_ge b n with h | h
  · exact h
  · rw [hf b h] at hb; cases hb
/-- The product of two vectors by the table m: rows up to i, of row i the places up to j. -/
def pk (p : Int) (m v w : Nat → Int) (n i j : Nat) : Nat → Int := fun x => (sm (fun i => sm (fun j => v i * w j * m (64 * i + 8 * j + x)) n) i + sm (fun j => v i * w j * m (64 * i + 8 * j + x)) j) % p
/-- The product of two vectors. -/
def pr (p : Int) (m v w : Nat → Int) (n : Nat) : Nat → Int := pk p m v w n n 0
theorem pk_zero (p : Int) (m v w : Nat → Int) (n : Nat) : pk p m v w n 0 0 = fun _ => 0 := by funext x; simp [pk, sm]
theorem pk_row (p : Int) (m v w : Nat → Int) (n i : Nat) : pk p m v w n i n = pk p m v w n (i + 1) 0 := by funext x; simp [pk, sm]
theorem pk_skip {p : Int} {m v w : Nat → Int} {n i : Nat} (h : v i = 0) : pk p m v w n (i + 1) 0 = pk p m v w n i 0 := by
  funext x
  unfold pk
  congr 1
  simp only [sm, h]
  rw [sm_zero (n := n) (fun j _ => by rw [Int.zero_mul, Int.zero_mul])]
  omega
theorem pk_step (p : Int) (m v w : Nat → Int) (n i j : Nat) : pl p (pk p m v w n i j) (v i * w j) (fun x => m (64 * i + 8 * j + x)) = pk p m v w n i (j + 1) := by
  funext x; unfold pl pk; rw [modAddL, sm, Int.add_assoc]
theorem pk_res {p : Int} (hp : 2 ≤ p) (m v w : Nat → Int) (n i j N : Nat) : isRes p N (pk p m v w n i j) := fun _ _ => modB _ hp
theorem pk_whole (p : Int) (m v w : Nat → Int) (n i : Nat) : pl p (pk p m v w n i 0) (v i) (apk p (fun q => m (64 * i + q)) w n) = pk p m v w n (i + 1) 0 := by
  funext x
  unfold pl pk apk
  rw [modAdd]
  simp only [sm, Int.add_zero]
  rw [sm_mul]
  congr 2
  exact sm_congr (fun j _ => by rw [Int.mul_assoc, Nat.add_assoc])
theorem pr_res {p : Int} (hp : 2 ≤ p) (m v w : Nat → Int) (n N : Nat) : isRes p N (pr p m v w n) := pk_res hp _ _ _ _ _ _ _
/-- An algebra or a coalgebra has the form of one: the vector u, the table m. -/
def shp (p n : Int) (u m : Nat → Int) : Prop := sz p n ∧ isVec p n u ∧ isTab p n m
/-- The cells of a Hopf table: prime, size, unit, products, counit, coproducts, antipode. -/
structure HT where
  p : Int
  n : Int
  u : Nat → Int
  m : Nat → Int
  e : Nat → Int
  c : Nat → Int
  s : Nat → Int
/-- A row of cells holds the table. -/
structure HT.At (h : HT) (K : Nat → SV) : Prop where
  p : K 0 = .int .i64 h.p
  n : K 1 = .int .i64 h.n
  u : ∀ q, q < 8 → K (2 + q) = .int .u8 (h.u q)
  m : ∀ q, q < 512 → K (10 + q) = .int .u8 (h.m q)
  e : ∀ q, q < 8 → K (522 + q) = .int .u8 (h.e q)
  c : ∀ q, q < 512 → K (530 + q) = .int .u8 (h.c q)
  s : ∀ q, q < 64 → K (1042 + q) = .int .u8 (h.s q)
/-- Its small cells are bytes. -/
structure HT.By (h : HT) : Prop where
  u : isBy 8 h.u
  m : isBy 512 h.m
  e : isBy 8 h.e
  c : isBy 512 h.c
  s : isBy 64 h.s
end Go.V
namespace Go.Proofs.YtbknndbfbebkdabGreatR
open Go.V
set_option linter.unusedSimpArgs false
set_option linter.unusedVariables false
set_option maxHeartbeats 4000000
/-- What the parts of a Hopf table are called with: a new block that holds an algebra or a coalgebra. -/
def newAlg (t : Nat) (p n' : Int) (u m : Nat → Int) (n : Nat) (H : Hp) (r : AV) (H' : Hp) (n2 : Nat) : Prop :=
  ∃ b c, r = ptr b 0 ∧ n ≤ b ∧ b < n2 ∧ H' = (b, ⟨522, c, t⟩) :: H ∧ c 0 = .int .i64 p ∧ c 1 = .int .i64 n' ∧ (∀ q, q < 8 → c (2 + q) = .int .u8 (u q)) ∧ (∀ q, q < 512 → c (10 + q) = .int .u8 (m q))
end Go.Proofs.YtbknndbfbebkdabGreatR
namespace Go.V
set_option linter.unusedSimpArgs false
set_option linter.unusedVariables false
set_option maxHeartbeats 4000000
theorem Ext.new {H : Hp} {b : Nat} {k : Blk} (h : H.get b = none) : Ext H ((b, k) :: H) := fun b' k' hb' => by
  have hne : b ≠ b' := by intro e; subst e; rw [h] at hb'; cases hb'
  rw [Hp.get_ne _ _ hne]; exact hb'
/-- A Hopf table is shaped. -/
def shH (h : HT) : Prop := shp h.p h.n h.u h.m ∧ shp h.p h.n h.e h.c ∧ isLin h.p h.n h.n h.s
theorem sm_0 (f : Nat → Int) : sm f 0 = 0 := rfl
theorem sm_append (f : Nat → Int) (a : Nat) : ∀ b : Nat, sm f (a + b) = sm f a + sm (fun i => f (a + i)) b
  | 0 => by simp [sm]
  | b + 1 => by rw [← Nat.add_assoc, sm, sm, sm_append f a b, Int.add_assoc]
theorem sm_flat (f : Nat → Int) (k : Nat) : ∀ n : Nat, sm f (k * n) = sm (fun i => sm (fun j => f (k * i + j)) k) n
  | 0 => by simp [sm]
  | n + 1 => by rw [Nat.mul_add, Nat.mul_one, sm_append, sm_flat f k n, sm]
/-- The first x rows of B, the other ones of A. -/
def rowsTo (A B : Nat → Int) (x : Nat) : Nat → Int := fun q => if q < 8 * x then B q else A q
theorem rowsTo_zero (A B : Nat → Int) : rowsTo A B 0 = A := by funext q; simp [rowsTo]
theorem rowsTo_all {A B : Nat → Int} {n N : Nat} (h : ∀ q, 8 * n ≤ q → q < N → A q = B q) {q : Nat} (hq : q < N) : rowsTo A B n q = B q := by
  unfold rowsTo; split
  · rfl
  · exact h q (by omega) hq
theorem rowsTo_step {A B : Nat → Int} {x : Nat} {r : Nat → Int} (h : ∀ y, y < 8 → r y = B (8 * x + y)) (q : Nat) : splice (bys (rowsTo A B x)) (8 * x) 8 (bys r) q = bys (rowsTo A B (x + 1)) q := by
  unfold splice bys rowsTo
  by_cases h1 : 8 * x ≤ q ∧ q < 8 * x + 8
  · rw [if_pos h1, if_pos (by omega), h (q - 8 * x) (by omega), show 8 * x + (q - 8 * x) = q by omega]
  · rw [if_neg h1]
    by_cases h2 : q < 8 * x
    · rw [if_pos h2, if_pos (by omega)]
    · rw [if_neg h2, if_neg (by omega)]
/-- The entries of a table outside its size are 0. -/
def tz (n : Nat) (m : Nat → Int) : Prop := ∀ i j x : Nat, i < 8 → j < 8 → x < 8 → (n ≤ i ∨ n ≤ j ∨ n ≤ x) → m (64 * i + 8 * j + x) = 0
def lz (n : Nat) (l : Nat → Int) : Prop := ∀ i x : Nat, i < 8 → x < 8 → (n ≤ i ∨ n ≤ x) → l (8 * i + x) = 0
def vz (n : Nat) (v : Nat → Int) : Prop := ∀ x : Nat, x < 8 → n ≤ x → v x = 0
theorem isVec.vz {p : Int} {n : Nat} {v : Nat → Int} (h : isVec p n v) : vz n v := fun x hx hn => (h x hx).2 (by omega)
theorem isLin.lz {p : Int} {n : Nat} {l : Nat → Int} (h : isLin p n n l) : lz n l := fun i x hi hx hn => by
  by_cases e : n ≤ i
  · exact (h i hi).2 (by omega) x hx
  · exact ((h i hi).1 x hx).2 (by omega)
theorem isTab.tz {p : Int} {n : Nat} {t : Nat → Int} (h : isTab p n t) : tz n t := fun i j x hi hj hx hn => by
  rw [Nat.add_assoc]
  by_cases e : n ≤ i
  · exact (h i hi).2 (by omega) (8 * j + x) (by omega)
  · exact (h i hi).1.lz j x hj hx (by omega)
theorem tz.row {n : Nat} {m : Nat → Int} (h : tz n m) {i : Nat} (hi : i < 8) : lz n (fun q => m (64 * i + q)) := fun j x hj hx hn => by
  have := h i j x hi hj hx (by omega)
  rwa [Nat.add_assoc] at this
theorem lz.row {n : Nat} {l : Nat → Int} (h : lz n l) {i : Nat} (hi : i < 8) : vz n (fun q => l (8 * i + q)) := fun x hx hn => h i x hi hx (by omega)
theorem lz.at {n : Nat} {l : Nat → Int} (h : lz n l) {q : Nat} (hq : q < 64) (hn : 8 * n ≤ q) : l q = 0 := by
  have := h (q / 8) (q % 8) (by omega) (by omega) (by omega)
  rwa [show 8 * (q / 8) + q % 8 = q by omega] at this
theorem tz.at {n : Nat} {m : Nat → Int} (h : tz n m) {i q : Nat} (hi : i < 8) (hq : q < 64) (hn : n ≤ i ∨ 8 * n ≤ q) : m (64 * i + q) = 0 := by
  have := h i (q / 8) (q % 8) hi (by omega) (by omega) (by omega)
  rwa [show 64 * i + 8 * (q / 8) + q % 8 = 64 * i + q by omega] at this
/-- The coproduct of the first i entries. -/
def cps (p : Int) (c v : Nat → Int) (i : Nat) : Nat → Int := fun q => sm (fun i => v i * c (64 * i + q)) i % p
theorem cps_zero (p : Int) (c v : Nat → Int) : cps p c v 0 = fun _ => 0 := by funext q; simp [cps, sm]
theorem cps_res {p : Int} (hp : 2 ≤ p) (c v : Nat → Int) (i N : Nat) : isRes p N (cps p c v i) := fun _ _ => modB _ hp
theorem cps_same {p : Int} {c v : Nat → Int} {i : Nat} (h : v i = 0) : cps p c v (i + 1) = cps p c v i := by
  funext q; unfold cps; rw [sm, h, Int.zero_mul, Int.add_zero]
theorem cps_row (p : Int) (c v : Nat → Int) (i j y : Nat) : pl p (fun y => cps p c v i (8 * j + y)) (v i) (fun y => c (64 * i + 8 * j + y)) y = cps p c v (i + 1) (8 * j + y) := by
  unfold pl cps; rw [modAddL, sm]; simp only [Nat.add_assoc]
theorem cps_out {p : Int} {c v : Nat → Int} {n i : Nat} (hc : tz n c) (hi : i < 8) {q : Nat} (hn : 8 * n ≤ q) (hq : q < 64) : cps p c v i q = cps p c v (i + 1) q := by
  unfold cps; rw [sm, hc.at hi hq (.inr hn), Int.mul_zero, Int.add_zero]
theorem cps_end {p : Int} {c v : Nat → Int} {n : Nat} (hc : tz n c) (hn : n ≤ 8) {q : Nat} (hq : q < 64) : cps p c v n q = cps p c v 8 q := by
  unfold cps; rw [sm_more hn (fun i h1 h2 => by rw [hc.at h2 hq (.inl h1), Int.mul_zero])]
/-- What the entry t of a and the entry s of b give for the entry q. -/
def tw (m : Nat → Int) (t s q : Nat) : Int := m (64 * (t / 8) + 8 * (s / 8) + q / 8) * m (64 * (t % 8) + 8 * (s % 8) + q % 8)
/-- The product of two tables: of a the entries up to t, of the entry t the entries of b up to s. -/
def tns (p : Int) (m a b : Nat → Int) (t s : Nat) : Nat → Int := fun q => (sm (fun t => a t * sm (fun s => b s * tw m t s q) 64) t + a t * sm (fun s => b s * tw m t s q) s) % p
def ten (p : Int) (m a b : Nat → Int) : Nat → Int := tns p m a b 64 0
theorem tns_zero (p : Int) (m a b : Nat → Int) : tns p m a b 0 0 = fun _ => 0 := by funext q; simp [tns, sm]
theorem tns_next (p : Int) (m a b : Nat → Int) (t : Nat) : tns p m a b t 64 = tns p m a b (t + 1) 0 := by funext q; simp [tns, sm]
theorem tns_skip {p : Int} {m a b : Nat → Int} {t : Nat} (h : a t = 0) : tns p m a b (t + 1) 0 = tns p m a b t 0 := by funext q; simp [tns, sm, h]
theorem tns_same {p : Int} {m a b : Nat → Int} {t s : Nat} (h : b s = 0) : tns p m a b t (s + 1) = tns p m a b t s := by funext q; simp [tns, sm, h]
theorem tns_res {p : Int} (hp : 2 ≤ p) (m a b : Nat → Int) (t s N : Nat) : isRes p N (tns p m a b t s) := fun _ _ => modB _ hp
theorem tns_row (p : Int) (m a b : Nat → Int) (t s i y : Nat) (hy : y < 8) :
    pl p (fun y => tns p m a b t s (8 * i + y)) (a t * b s % p * m (64 * (t / 8) + 8 * (s / 8) + i)) (fun y => m (64 * (t % 8) + 8 * (s % 8) + y)) y = tns p m a b t (s + 1) (8 * i + y) := by
  unfold pl tns
  rw [modAddL, Int.mul_assoc, ← modAddR _ (_ % p * _), Int.mul_emod (_ % p), Int.emod_emod_of_dvd _ (Int.dvd_refl p), ← Int.mul_emod, modAddR]
  congr 1
  rw [sm, Int.mul_add, ← Int.add_assoc]
  congr 1
  simp only [tw, show (8 * i + y) / 8 = i by omega, show (8 * i + y) % 8 = y by omega]
  rw [Int.mul_assoc]
/-- The product of two tables, row by row. -/
def twr (p : Int) (m f g : Nat → Int) (n : Nat) (j l q : Nat) : Int := m (64 * j + 8 * l + q / 8) * pr p m (fun x => f (8 * j + x)) (fun x => g (8 * l + x)) n (q % 8)
def tsr (p : Int) (m f g : Nat → Int) (n : Nat) (j l : Nat) : Nat → Int := fun q => (sm (fun j => sm (fun l => twr p m f g n j l q) n) j + sm (fun l => twr p m f g n j l q) l) % p
theorem tsr_zero (p : Int) (m f g : Nat → Int) (n : Nat) : tsr p m f g n 0 0 = fun _ => 0 := by funext q; simp [tsr, sm]
theorem tsr_next (p : Int) (m f g : Nat → Int) (n j : Nat) : tsr p m f g n j n = tsr p m f g n (j + 1) 0 := by funext q; simp [tsr, sm]
theorem tsr_res {p : Int} (hp : 2 ≤ p) (m f g : Nat → Int) (n j l N : Nat) : isRes p N (tsr p m f g n j l) := fun _ _ => modB _ hp
theorem tsr_same {p : Int} {m f g : Nat → Int} {n j l q : Nat} (h : twr p m f g n j l q = 0) : tsr p m f g n j (l + 1) q = tsr p m f g n j l q := by
  unfold tsr; rw [sm, h, Int.add_zero]
theorem twr_zero {p : Int} {m f g : Nat → Int} {n j l : Nat} (h : ∀ y, y < 8 → pr p m (fun x => f (8 * j + x)) (fun x => g (8 * l + x)) n y = 0) (q : Nat) : twr p m f g n j l q = 0 := by
  unfold twr; rw [h _ (by omega), Int.mul_zero]
theorem tsr_row (p : Int) (m f g : Nat → Int) (n j l x y : Nat) (hy : y < 8) :
    pl p (fun y => tsr p m f g n j l (8 * x + y)) (m (64 * j + 8 * l + x)) (pr p m (fun x => f (8 * j + x)) (fun x => g (8 * l + x)) n) y = tsr p m f g n j (l + 1) (8 * x + y) := by
  unfold pl tsr
  rw [modAddL]
  congr 1
  rw [sm, ← Int.add_assoc]
  congr 1
  simp only [twr, show (8 * x + y) / 8 = x by omega, show (8 * x + y) % 8 = y by omega]
theorem tsr_out {p : Int} {m f g : Nat → Int} {n j l q : Nat} (hm : tz n m) (hj : j < 8) (hl : l < 8) (hn : 8 * n ≤ q) (hq : q < 64) : tsr p m f g n j l q = tsr p m f g n j (l + 1) q := by
  refine (tsr_same ?_).symm
  unfold twr; rw [hm j l (q / 8) hj hl (by omega) (by omega), Int.zero_mul]
theorem tsr_end {p : Int} {m f g : Nat → Int} {n : Nat} (hm : tz n m) (hn : n ≤ 8) {q : Nat} (hq : q < 64) : tsr p m f g n n 0 q = ten p m f g q := by
  have e1 : ∀ j l, j < 8 → l < 8 → twr p m f g n j l q % p
      = (m (64 * j + 8 * l + q / 8) * sm (fun k => sm (fun i => f (8 * j + k) * g (8 * l + i) * m (64 * k + 8 * i + q % 8)) 8) 8) % p := fun j l hj hl => by
    unfold twr pr pk
    rw [Int.mul_emod, Int.emod_emod_of_dvd _ (Int.dvd_refl p), ← Int.mul_emod]
    congr 2
    simp only [sm_0, Int.add_zero]
    rw [← sm_more hn (fun k h1 h2 => ?_)]
    · refine sm_congr fun k hk => ?_
      rw [← sm_more hn (fun i h1 h2 => ?_)]
      rw [hm k i (q % 8) hk h2 (by omega) (by omega), Int.mul_zero]
    · exact sm_zero fun i hi => by rw [hm k i (q % 8) h2 (by omega) (by omega) (by omega), Int.mul_zero]
  unfold tsr ten tns
  simp only [sm_0, Int.mul_zero, Int.add_zero]
  have e2 : sm (fun j => sm (fun l => twr p m f g n j l q) n) n = sm (fun j => sm (fun l => twr p m f g n j l q) 8) 8 := by
    rw [← sm_more hn (fun j h1 h2 => ?_)]
    · refine sm_congr fun j hj => ?_
      rw [← sm_more hn (fun l h1 h2 => ?_)]
      unfold twr; rw [hm j l (q / 8) hj h2 (by omega) (by omega), Int.zero_mul]
    · exact sm_zero fun l hl => by unfold twr; rw [hm j l (q / 8) h2 (by omega) (by omega) (by omega), Int.zero_mul]
  rw [e2]
  have e3 : sm (fun t => f t * sm (fun s => g s * tw m t s q) 64) 64 = sm (fun j => sm (fun k => f (8 * j + k) * sm (fun l => sm (fun i => g (8 * l + i) * (m (64 * j + 8 * l + q / 8) * m (64 * k + 8 * i + q % 8))) 8) 8) 8) 8 := by
    rw [show (64 : Nat) = 8 * 8 by rfl, sm_flat]
    refine sm_congr fun j hj => sm_congr fun k hk => ?_
    rw [sm_flat]
    congr 1
    refine sm_congr fun l hl => sm_congr fun i hi => ?_
    simp only [tw, show (8 * j + k) / 8 = j by omega, show (8 * j + k) % 8 = k by omega, show (8 * l + i) / 8 = l by omega, show (8 * l + i) % 8 = i by omega]
  rw [e3]
  refine sm_modc fun j hj => ?_
  rw [sm_modc (fun l hl => e1 j l hj hl)]
  congr 1
  have e4 : ∀ k, f (8 * j + k) * sm (fun l => sm (fun i => g (8 * l + i) * (m (64 * j + 8 * l + q / 8) * m (64 * k + 8 * i + q % 8))) 8) 8
      = sm (fun l => m (64 * j + 8 * l + q / 8) * sm (fun i => f (8 * j + k) * g (8 * l + i) * m (64 * k + 8 * i + q % 8)) 8) 8 := fun k => by
    rw [sm_mul]
    refine sm_congr fun l hl => ?_
    rw [sm_mul, sm_mul]
    refine sm_congr fun i hi => ?_
    simp only [Int.mul_assoc, Int.mul_left_comm]
  rw [sm_congr (fun k _ => e4 k), sm_swap]
  refine sm_congr fun l hl => ?_
  rw [sm_mul]
def outer (p : Int) (v w : Nat → Int) : Nat → Int := fun q => v (q / 8) * w (q % 8) % p
theorem outer_row (p : Int) (v w : Nat → Int) (j y : Nat) (hy : y < 8) : pl p (fun _ => 0) (v j) w y = outer p v w (8 * j + y) := by
  unfold pl outer; rw [Int.zero_add, show (8 * j + y) / 8 = j by omega, show (8 * j + y) % 8 = y by omega]
def dotk (p : Int) (v w : Nat → Int) (k : Nat) : Int := sm (fun i => v i * w i) k % p
theorem dotk_end {p : Int} {v w : Nat → Int} {n : Nat} (hn : n ≤ 8) (h : vz n v ∨ vz n w) : dotk p v w n = dotk p v w 8 := by
  unfold dotk
  rw [sm_more hn (fun i h1 h2 => by
    rcases h with h | h
    · rw [h i h2 h1, Int.zero_mul]
    · rw [h i h2 h1, Int.mul_zero])]
theorem dotk_comm (p : Int) (v w : Nat → Int) (k : Nat) : dotk p v w k = dotk p w v k := by
  unfold dotk; rw [sm_congr fun i _ => Int.mul_comm _ _]
/-- The products with basis elements are associative. -/
def assoc (p : Int) (n : Nat) (m : Nat → Int) : Prop := ∀ i j k : Nat, i < n → j < n → k < n → ∀ q, q < 8 →
  pr p m (fun x => m (64 * i + 8 * j + x)) (bas k) n q = pr p m (bas i) (fun x => m (64 * j + 8 * k + x)) n q
def units (p : Int) (n : Nat) (u m : Nat → Int) : Prop := ∀ i : Nat, i < n → (∀ q, q < 8 → pr p m u (bas i) n q = bas i q) ∧ (∀ q, q < 8 → pr p m (bas i) u n q = bas i q)
def isAlg (p : Int) (n : Int) (u m : Nat → Int) : Prop := shp p n u m ∧ units p n.toNat u m ∧ assoc p n.toNat m
def cosum1 (p : Int) (c : Nat → Int) (i j k l : Nat) (n : Nat) : Int := sm (fun a => c (64 * i + 8 * a + l) * c (64 * a + 8 * j + k)) n % p
def cosum2 (p : Int) (c : Nat → Int) (i j k l : Nat) (n : Nat) : Int := sm (fun a => c (64 * i + 8 * j + a) * c (64 * a + 8 * k + l)) n % p
def coassoc (p : Int) (n : Nat) (c : Nat → Int) : Prop := ∀ t : Nat, t < n * n * n * n →
  cosum1 p c (t / (n * n * n)) (t / (n * n) % n) (t / n % n) (t % n) n = cosum2 p c (t / (n * n * n)) (t / (n * n) % n) (t / n % n) (t % n) n
/-- The sum of e[j] c[i][j] up to k. -/
def coL (p : Int) (e c : Nat → Int) (i k : Nat) : Nat → Int := fun x => sm (fun j => e j * c (64 * i + 8 * j + x)) k % p
def coR (p : Int) (e c : Nat → Int) (i k : Nat) : Nat → Int := fun x => if x < k then dotk p e (fun y => c (64 * i + 8 * x + y)) 8 else 0
theorem coL_zero (p : Int) (e c : Nat → Int) (i : Nat) : coL p e c i 0 = fun _ => 0 := by funext x; simp [coL, sm]
theorem coL_step (p : Int) (e c : Nat → Int) (i k : Nat) : pl p (coL p e c i k) (e k) (fun x => c (64 * i + 8 * k + x)) = coL p e c i (k + 1) := by
  funext x; unfold pl coL; rw [modAddL, sm]
theorem coL_res {p : Int} (hp : 2 ≤ p) (e c : Nat → Int) (i k N : Nat) : isRes p N (coL p e c i k) := fun _ _ => modB _ hp
theorem coR_zero (p : Int) (e c : Nat → Int) (i : Nat) : coR p e c i 0 = fun _ => 0 := by funext x; simp [coR]
theorem coR_step (p : Int) (e c : Nat → Int) (i k x : Nat) : (if x = k then dotk p e (fun y => c (64 * i + 8 * k + y)) 8 else coR p e c i k x) = coR p e c i (k + 1) x := by
  unfold coR
  by_cases h : x = k
  · subst h; rw [if_pos rfl, if_pos (by omega)]
  · rw [if_neg h]
    by_cases h2 : x < k
    · rw [if_pos h2, if_pos (by omega)]
    · rw [if_neg h2, if_neg (by omega)]
def counits (p : Int) (n : Nat) (e c : Nat → Int) : Prop := ∀ i : Nat, i < n → (∀ q, q < 8 → coL p e c i n q = bas i q) ∧ (∀ q, q < 8 → coR p e c i n q = bas i q)
def isCoalg (p : Int) (n : Int) (e c : Nat → Int) : Prop := shp p n e c ∧ counits p n.toNat e c ∧ coassoc p n.toNat c
/-- The sum of the products of the entries of the row i of c up to t with vectors. -/
def fold (p : Int) (c : Nat → Int) (i : Nat) (g : Nat → Nat → Int) (t : Nat) : Nat → Int := fun x => sm (fun t => c (64 * i + t) * g t x) t % p
theorem fold_zero (p : Int) (c : Nat → Int) (i : Nat) (g : Nat → Nat → Int) : fold p c i g 0 = fun _ => 0 := by funext x; simp [fold, sm]
theorem fold_step (p : Int) (c : Nat → Int) (i : Nat) (g : Nat → Nat → Int) (t : Nat) : pl p (fold p c i g t) (c (64 * i + t)) (g t) = fold p c i g (t + 1) := by
  funext x; unfold pl fold; rw [modAddL, sm]
theorem fold_skip {p : Int} {c : Nat → Int} {i : Nat} {g : Nat → Nat → Int} {t : Nat} (h : c (64 * i + t) = 0) : fold p c i g (t + 1) = fold p c i g t := by
  funext x; unfold fold; rw [sm, h, Int.zero_mul, Int.add_zero]
theorem fold_res {p : Int} (hp : 2 ≤ p) (c : Nat → Int) (i : Nat) (g : Nat → Nat → Int) (t N : Nat) : isRes p N (fold p c i g t) := fun _ _ => modB _ hp
theorem fold_more {p : Int} {c : Nat → Int} {i : Nat} {g : Nat → Nat → Int} {t t' : Nat} (h : t ≤ t') (hz : ∀ s, t ≤ s → s < t' → c (64 * i + s) = 0) : fold p c i g t' = fold p c i g t := by
  funext x; unfold fold; rw [sm_more h fun s h1 h2 => by rw [hz s h1 h2, Int.zero_mul]]
theorem fold_row {p : Int} {c : Nat → Int} {i n j : Nat} {g : Nat → Nat → Int} (hc : tz n c) (hi : i < 8) (hn : n ≤ 8) (hj : j < 8) : fold p c i g (8 * j + n) = fold p c i g (8 * (j + 1) + 0) :=
  (fold_more (by omega) fun s h1 h2 => by
    have := hc i (s / 8) (s % 8) hi (by omega) (by omega) (by omega)
    rwa [Nat.add_assoc, show 8 * (s / 8) + s % 8 = s by omega] at this).symm
theorem fold_end {p : Int} {c : Nat → Int} {i n : Nat} {g : Nat → Nat → Int} (hc : tz n c) (hi : i < 8) (hn : n ≤ 8) : fold p c i g (8 * n + 0) = fold p c i g 64 :=
  (fold_more (by omega) fun s h1 h2 => hc.at hi h2 (.inr (by omega))).symm
/-- The vectors of axiom 6, and of axiom 7. -/
def g6 (p : Int) (m s : Nat → Int) (n : Nat) (t : Nat) : Nat → Int := pr p m (fun y => s (8 * (t / 8) + y)) (bas (t % 8)) n
def g7 (p : Int) (m s : Nat → Int) (n : Nat) (t : Nat) : Nat → Int := pr p m (bas (t / 8)) (fun y => s (8 * (t % 8) + y)) n
theorem g6_res {p : Int} (hp : 2 ≤ p) (m s : Nat → Int) (n t N : Nat) : isRes p N (g6 p m s n t) := pr_res hp _ _ _ _ _
theorem g7_res {p : Int} (hp : 2 ≤ p) (m s : Nat → Int) (n t N : Nat) : isRes p N (g7 p m s n t) := pr_res hp _ _ _ _ _
def HT.N (h : HT) : Nat := h.n.toNat
def ax3 (h : HT) : Prop := ∀ i j : Nat, i < h.N → j < h.N → ∀ q, q < 64 →
  cps h.p h.c (fun x => h.m (64 * i + 8 * j + x)) 8 q = ten h.p h.m (fun q => h.c (64 * i + q)) (fun q => h.c (64 * j + q)) q
def ax4 (h : HT) : Prop := ∀ q, q < 64 → cps h.p h.c h.u 8 q = outer h.p h.u h.u q
def ax5 (h : HT) : Prop := (∀ i j : Nat, i < h.N → j < h.N → dotk h.p h.e (fun x => h.m (64 * i + 8 * j + x)) 8 = h.e i * h.e j % h.p) ∧ dotk h.p h.e h.u 8 = 1
def ax6 (h : HT) : Prop := ∀ i : Nat, i < h.N → ∀ q, q < 8 → fold h.p h.c i (g6 h.p h.m h.s h.N) 64 q = pl h.p (fun _ => 0) (h.e i) h.u q
def ax7 (h : HT) : Prop := ∀ i : Nat, i < h.N → ∀ q, q < 8 → fold h.p h.c i (g7 h.p h.m h.s h.N) 64 q = pl h.p (fun _ => 0) (h.e i) h.u q
def ax (h : HT) : Nat → Prop
  | 0 => isAlg h.p h.n h.u h.m
  | 1 => isCoalg h.p h.n h.e h.c
  | 2 => ax3 h
  | 3 => ax4 h
  | 4 => ax5 h
  | 5 => ax6 h
  | _ => ax7 h
/-- One more than the first number from k on, among the next many, for which A does not hold, or 0. -/
noncomputable def firstNot (A : Nat → Prop) (k : Nat) : Nat → Int
  | 0 => 0
  | j + 1 => if tb (A k) = true then firstNot A (k + 1) j else (k : Int) + 1
theorem firstNot_go {A : Nat → Prop} {k j : Nat} (h : A k) : firstNot A k (j + 1) = firstNot A (k + 1) j := by rw [firstNot, if_pos (tb_true h)]
theorem firstNot_end {A : Nat → Prop} {k j : Nat} (h : ¬A k) : firstNot A k (j + 1) = (k : Int) + 1 := by rw [firstNot, tb_false h, if_neg (by simp)]
theorem firstNot_zero {A : Nat → Prop} : ∀ {j k : Nat}, firstNot A k j = 0 ↔ ∀ i, k ≤ i → i < k + j → A i
  | 0, k => ⟨fun _ i h1 h2 => by omega, fun _ => rfl⟩
  | j + 1, k => by
    by_cases h : A k
    · rw [firstNot_go h, firstNot_zero]
      refine ⟨fun hh i h1 h2 => ?_, fun hh i h1 h2 => hh i (by omega) (by omega)⟩
      by_cases e : i = k
      · rw [e]; exact h
      · exact hh i (by omega) (by omega)
    · rw [firstNot_end h]
      exact ⟨fun hh => by omega, fun hh => absurd (hh k (by omega) (by omega)) h⟩
def isHopf (h : HT) : Prop := shH h ∧ firstNot (ax h) 0 7 = 0
theorem bas_by (k N : Nat) : isBy N (bas k) := fun i _ => by unfold bas; split <;> omega
theorem isAlg_nat {p : Int} {a : Nat} {u m : Nat → Int} : isAlg p a u m ↔ shp p a u m ∧ units p a u m ∧ assoc p a m := Iff.rfl
theorem isCoalg_nat {p : Int} {a : Nat} {e c : Nat → Int} : isCoalg p a e c ↔ shp p a e c ∧ counits p a e c ∧ coassoc p a c := Iff.rfl
theorem dotk_res {p : Int} (hp : 2 ≤ p) (v w : Nat → Int) (k : Nat) : 0 ≤ dotk p v w k ∧ dotk p v w k < p := modB _ hp
theorem pow4 (a : Nat) (h1 : 1 ≤ a) (ha : a ≤ 8) : (1 ≤ (a : Int) * a ∧ (a : Int) * a ≤ 64) ∧ (1 ≤ (a : Int) * a * a ∧ (a : Int) * a * a ≤ 512) ∧ (1 ≤ (a : Int) * a * a * a ∧ (a : Int) * a * a * a ≤ 4096) := by
  have : a = 1 ∨ a = 2 ∨ a = 3 ∨ a = 4 ∨ a = 5 ∨ a = 6 ∨ a = 7 ∨ a = 8 := by omega
  rcases this with rfl | rfl | rfl | rfl | rfl | rfl | rfl | rfl <;> decide
theorem idx4 (a t : Nat) (h1 : 1 ≤ a) (ht : t < a * a * a * a) : t / (a * a * a) < a ∧ t / (a * a) % a < a ∧ t / a % a < a ∧ t % a < a :=
  ⟨Nat.div_lt_of_lt_mul ht, Nat.mod_lt _ h1, Nat.mod_lt _ h1, Nat.mod_lt _ h1⟩
/-- A shaped table of size a. -/
structure HS (h : HT) (a : Nat) : Prop where
  hp : 2 ≤ h.p ∧ h.p ≤ 31
  hn : h.n = a
  ha1 : 1 ≤ a
  ha : a ≤ 8
  um : vz a h.u
  mm : tz a h.m
  em : vz a h.e
  cm : tz a h.c
  sm : lz a h.s
theorem shH.hs {h : HT} (q : shH h) : ∃ a, HS h a := by
  obtain ⟨⟨⟨q1, q2⟩, q3, q4⟩, ⟨_, q5, q6⟩, q7⟩ := q
  obtain ⟨a, ha⟩ := Int.eq_ofNat_of_zero_le (show 0 ≤ h.n by omega)
  rw [ha] at q2 q3 q4 q5 q6 q7
  exact ⟨a, isP_le q1, ha, by omega, by omega, q3.vz, q4.tz, q5.vz, q6.tz, q7.lz⟩
theorem HS.N {h : HT} {a : Nat} (q : HS h a) : h.N = a := by unfold HT.N; rw [q.hn]; rfl
theorem rowsTo_keep {A B : Nat → Int} {x : Nat} (h : ∀ y, y < 8 → A (8 * x + y) = B (8 * x + y)) : rowsTo A B x = rowsTo A B (x + 1) := by
  funext q
  unfold rowsTo
  by_cases h1 : q < 8 * x
  · rw [if_pos h1, if_pos (by omega)]
  · rw [if_neg h1]
    by_cases h2 : q < 8 * (x + 1)
    · rw [if_pos h2]
      have := h (q - 8 * x) (by omega)
      rwa [show 8 * x + (q - 8 * x) = q by omega] at this
    · rw [if_neg h2]
/-- The coalgebra's cells of a Hopf table. -/
def coC (K : Nat → SV) : Nat → SV := fun q => if q < 2 then K q else K (520 + q)
theorem coC_e {h : HT} {K : Nat → SV} (hK : h.At K) : ∀ q, q < 8 → coC K (2 + q) = .int .u8 (h.e q) := fun q hq => by
  unfold coC; rw [if_neg (by omega), ← hK.e q hq]; congr 1; omega
theorem coC_c {h : HT} {K : Nat → SV} (hK : h.At K) : ∀ q, q < 512 → coC K (10 + q) = .int .u8 (h.c q) := fun q hq => by
  unfold coC; rw [if_neg (by omega), ← hK.c q hq]; congr 1; omega
theorem HT.By.rowm {h : HT} (hB : h.By) {i j : Nat} (hi : i < 8) (hj : j < 8) : isBy 8 (fun x => h.m (64 * i + 8 * j + x)) := fun x hx => hB.m _ (by omega)
theorem HT.By.rowc {h : HT} (hB : h.By) {i : Nat} (hi : i < 8) : isBy 64 (fun q => h.c (64 * i + q)) := fun x hx => hB.c _ (by omega)
theorem HT.By.rows {h : HT} (hB : h.By) {j : Nat} (hj : j < 8) : isBy 8 (fun y => h.s (8 * j + y)) := fun x hx => hB.s _ (by omega)
theorem firstNot_split (A : Nat → Prop) (j : Nat) : ∀ (i k : Nat), firstNot A k (i + j) = if firstNot A k i = 0 then firstNot A (k + i) j else firstNot A k i
  | 0, k => by rw [Nat.zero_add, if_pos (show firstNot A k 0 = 0 from rfl)]; rfl
  | i + 1, k => by
    rw [show i + 1 + j = (i + j) + 1 by omega]
    by_cases h : A k
    · rw [firstNot_go h, firstNot_go h, firstNot_split A j i (k + 1), show k + 1 + i = k + (i + 1) by omega]
    · rw [firstNot_end h, firstNot_end h, if_neg (by omega)]
theorem ax4_rows {h : HT} {a : Nat} (hS : HS h a) : ax4 h ↔ ∀ j, j < a → ∀ q, q < 8 → cps h.p h.c h.u 8 (8 * j + q) = pl h.p (fun _ => 0) (h.u j) h.u q := by
  constructor
  · intro q j hj x hx
    rw [q (8 * j + x) (by have := hS.ha; omega), outer_row _ _ _ _ _ hx]
  · intro q x hx
    by_cases e : x < 8 * a
    · have := q (x / 8) (by omega) (x % 8) (by omega)
      rw [outer_row _ _ _ _ _ (by omega), show 8 * (x / 8) + x % 8 = x by omega] at this
      exact this
    · have h1 : cps h.p h.c h.u 8 x = 0 := by
        unfold cps
        rw [sm_zero fun i hi => by rw [hS.cm.at hi hx (.inr (by omega)), Int.mul_zero]]
        rfl
      have h2 : outer h.p h.u h.u x = 0 := by
        unfold outer
        rw [hS.um (x / 8) (by omega) (by omega), Int.zero_mul]
        rfl
      rw [h1, h2]
theorem ax_fold6 {h : HT} {a : Nat} (hS : HS h a) : ax h 5 ↔ ∀ i : Nat, i < a → ∀ q, q < 8 → fold h.p h.c i (g6 h.p h.m h.s a) 64 q = pl h.p (fun _ => 0) (h.e i) h.u q := by
  show ax6 h ↔ _
  unfold ax6; rw [hS.N]
theorem ax_fold7 {h : HT} {a : Nat} (hS : HS h a) : ax h 6 ↔ ∀ i : Nat, i < a → ∀ q, q < 8 → fold h.p h.c i (g7 h.p h.m h.s a) 64 q = pl h.p (fun _ => 0) (h.e i) h.u q := by
  show ax7 h ↔ _
  unfold ax7; rw [hS.N]
/-- 0 for what holds, 1 for what does not. -/
noncomputable def cd (Q : Prop) : Int := if tb Q = true then 0 else 1
theorem cd_true {Q : Prop} (h : Q) : cd Q = 0 := by unfold cd; rw [tb_true h]; rfl
theorem cd_false {Q : Prop} (h : ¬Q) : cd Q = 1 := by unfold cd; rw [tb_false h]; rfl
end Go.V
namespace Go.Proofs.YtbknndbfbebkdabGreatR
open Go.V
set_option linter.unusedSimpArgs false
set_option linter.unusedVariables false
set_option maxHeartbeats 4000000
/-- The list of the axioms' functions. -/
def axF (b nb : Nat) : Nat → SV
  | 0 => .fn 104 [] [.ptr nb 0]
  | 1 => .fn 106 [] [.ptr nb 0]
  | 2 => .fn 108 [.ptr b 0] []
  | 3 => .fn 109 [.ptr b 0] []
  | 4 => .fn 110 [.ptr b 0] []
  | 5 => .fn 111 [] [.ptr nb 0]
  | _ => .fn 113 [] [.ptr nb 0]
end Go.Proofs.YtbknndbfbebkdabGreatR
namespace Go.V
set_option linter.unusedSimpArgs false
set_option linter.unusedVariables false
set_option maxHeartbeats 4000000
/-- The first x parts of 64 of B, the other ones of A. -/
def tabsTo (A B : Nat → Int) (x : Nat) : Nat → Int := fun q => if q < 64 * x then B q else A q
theorem tabsTo_zero (A B : Nat → Int) : tabsTo A B 0 = A := by funext q; simp [tabsTo]
theorem tabsTo_step {A B : Nat → Int} {x : Nat} {r : Nat → Int} (h : ∀ y, y < 64 → r y = B (64 * x + y)) (q : Nat) : splice (bys (tabsTo A B x)) (64 * x) 64 (bys r) q = bys (tabsTo A B (x + 1)) q := by
  unfold splice bys tabsTo
  by_cases h1 : 64 * x ≤ q ∧ q < 64 * x + 64
  · rw [if_pos h1, if_pos (by omega), h (q - 64 * x) (by omega), show 64 * x + (q - 64 * x) = q by omega]
  · rw [if_neg h1]
    by_cases h2 : q < 64 * x
    · rw [if_pos h2, if_pos (by omega)]
    · rw [if_neg h2, if_neg (by omega)]
def cellsTo (B : Nat → Int) (x : Nat) : Nat → Int := fun q => if q < x then B q else 0
theorem cellsTo_zero (B : Nat → Int) : cellsTo B 0 = fun _ => 0 := by funext q; simp [cellsTo]
theorem cellsTo_step (B : Nat → Int) (x q : Nat) : put1 (bys (cellsTo B x)) x (.int .u8 (B x)) q = bys (cellsTo B (x + 1)) q := by
  unfold put1 bys cellsTo
  by_cases h : q = x
  · subst h; rw [if_pos rfl, if_pos (by omega)]
  · rw [if_neg h]
    by_cases h2 : q < x
    · rw [if_pos h2, if_pos (by omega)]
    · rw [if_neg h2, if_neg (by omega)]
theorem isHopf.hs {h : HT} (q : isHopf h) : ∃ a, HS h a := q.1.hs
theorem app_res {p : Int} (hp : 2 ≤ p) (l v : Nat → Int) (N : Nat) : isRes p N (app p l v) := fun _ _ => modB _ hp
/-- A list of pointers to matrices. -/
def mls (H : Hp) (v : SV) (len : Nat) (w : Nat → Nat → Int) : Prop :=
  ∃ b c K, v = .slc b 0 len c ∧ H.get b = some K ∧ len ≤ K.size ∧ ∀ i, i < len → ∃ bi Ki, K.c (0 + i * 1) = .ptr bi 0 ∧ H.get bi = some Ki ∧ 64 ≤ Ki.size ∧ ∀ q, q < 64 → Ki.c (0 + q) = .int .u8 (w i q)
/-- A list of matrices. -/
def mlv (H : Hp) (v : SV) (len : Nat) (w : Nat → Nat → Int) : Prop :=
  ∃ b c K, v = .slc b 0 len c ∧ H.get b = some K ∧ 64 * len ≤ K.size ∧ ∀ i, i < len → ∀ q, q < 64 → K.c (0 + i * 64 + q) = .int .u8 (w i q)
/-- A Hopf algebra, and matrices of it. -/
def mok (h : HT) (len : Nat) (w : Nat → Nat → Int) : Prop := isHopf h ∧ ∀ i, i < len → isLin h.p h.n h.n (w i)
theorem mok_step {h : HT} {i : Nat} {w : Nat → Nat → Int} (h1 : mok h i w) : tb (sz h.p h.n ∧ isLin h.p h.n h.n (w i)) = tb (mok h (i + 1) w) := tb_iff ⟨fun q => ⟨h1.1, fun j hj => by
  by_cases e : j = i
  · rw [e]; exact q.2
  · exact h1.2 j (by omega)⟩, fun q => ⟨q.1.1.1.1, q.2 i (by omega)⟩⟩
theorem mok_no {h : HT} {i : Nat} {w : Nat → Nat → Int} (h1 : ¬mok h i w) : ¬mok h (i + 1) w := fun q => h1 ⟨q.1, fun j hj => q.2 j (by omega)⟩
theorem rep_getD (n q : Nat) : (List.replicate n IntKind.u8).getD q .u8 = .u8 := by
  rw [List.getD_eq_getElem?_getD, List.getElem?_replicate]; split <;> rfl
theorem u8_bounds {x : Int} (h : (Lit.int .u8 x).wf = true) : 0 ≤ x ∧ x ≤ 255 := by
  simp only [Lit.wf, Bool.and_eq_true, decide_eq_true_eq] at h
  exact h
theorem flat_bys (n : Nat) (z : Nat → Int) : (fun i => SV.int ((List.replicate n IntKind.u8).getD i .u8) (z i)) = bys z := by
  funext i; rw [rep_getD]; rfl
theorem flat_by {n N : Nat} {z : Nat → Int} (w : ∀ i, (Lit.int ((List.replicate n IntKind.u8).getD i .u8) (z i)).wf = true) : isBy N z := fun i _ => by
  have := w i; rw [rep_getD] at this; exact u8_bounds this
abbrev hopfKs : List IntKind := .i64 :: .i64 :: List.replicate 1104 .u8
theorem hopfKs_u8 (q : Nat) : hopfKs.getD (2 + q) .u8 = .u8 := by
  rw [show 2 + q = q + 1 + 1 by omega]
  show (List.replicate 1104 IntKind.u8).getD q .u8 = .u8
  exact rep_getD _ _
/-- The table in a row of cells. -/
def hOf (z : Nat → Int) : HT := ⟨z 0, z 1, fun q => z (2 + q), fun q => z (10 + q), fun q => z (522 + q), fun q => z (530 + q), fun q => z (1042 + q)⟩
theorem hOf_at (z : Nat → Int) : (hOf z).At (fun i => .int (hopfKs.getD i .u8) (z i)) where
  p := rfl
  n := rfl
  u := fun q _ => by show SV.int (hopfKs.getD (2 + q) .u8) _ = _; rw [hopfKs_u8]; rfl
  m := fun q _ => by show SV.int (hopfKs.getD (10 + q) .u8) _ = _; rw [show 10 + q = 2 + (8 + q) by omega, hopfKs_u8, show 2 + (8 + q) = 10 + q by omega]; rfl
  e := fun q _ => by show SV.int (hopfKs.getD (522 + q) .u8) _ = _; rw [show 522 + q = 2 + (520 + q) by omega, hopfKs_u8, show 2 + (520 + q) = 522 + q by omega]; rfl
  c := fun q _ => by show SV.int (hopfKs.getD (530 + q) .u8) _ = _; rw [show 530 + q = 2 + (528 + q) by omega, hopfKs_u8, show 2 + (528 + q) = 530 + q by omega]; rfl
  s := fun q _ => by show SV.int (hopfKs.getD (1042 + q) .u8) _ = _; rw [show 1042 + q = 2 + (1040 + q) by omega, hopfKs_u8, show 2 + (1040 + q) = 1042 + q by omega]; rfl
theorem hOf_u8 {z : Nat → Int} (w : ∀ i, (Lit.int (hopfKs.getD i .u8) (z i)).wf = true) (q : Nat) : 0 ≤ z (2 + q) ∧ z (2 + q) ≤ 255 := by
  have := w (2 + q); rw [hopfKs_u8] at this; exact u8_bounds this
theorem hOf_by {z : Nat → Int} (w : ∀ i, (Lit.int (hopfKs.getD i .u8) (z i)).wf = true) : (hOf z).By where
  u := fun q _ => hOf_u8 w q
  m := fun q _ => by have := hOf_u8 w (8 + q); rwa [show 2 + (8 + q) = 10 + q by omega] at this
  e := fun q _ => by have := hOf_u8 w (520 + q); rwa [show 2 + (520 + q) = 522 + q by omega] at this
  c := fun q _ => by have := hOf_u8 w (528 + q); rwa [show 2 + (528 + q) = 530 + q by omega] at this
  s := fun q _ => by have := hOf_u8 w (1040 + q); rwa [show 2 + (1040 + q) = 1042 + q by omega] at this
theorem splice_at (c d : Nat → SV) (o m q : Nat) (h : q < m) : splice c o m d (o + q) = d q := by
  unfold splice; rw [if_pos (by omega), Nat.add_sub_cancel_left]
/-- One or two matrices. -/
def two (s t : Nat → Int) : Nat → Nat → Int := fun i => if i = 0 then s else t
/-- A matrix with its places turned. -/
def trn (s : Nat → Int) : Nat → Int := fun q => s (8 * (q % 8) + q / 8)
theorem cellsTo_more {B : Nat → Int} {x y : Nat} (h : x ≤ y) (hz : ∀ q, x ≤ q → q < y → B q = 0) : cellsTo B x = cellsTo B y := by
  funext q
  unfold cellsTo
  by_cases h1 : q < x
  · rw [if_pos h1, if_pos (by omega)]
  · rw [if_neg h1]
    by_cases h2 : q < y
    · rw [if_pos h2, hz q (by omega) h2]
    · rw [if_neg h2]
theorem trn_zero {s : Nat → Int} {a q : Nat} (hs : lz a s) (hq : q < 64) (h : a ≤ q / 8 ∨ a ≤ q % 8) : trn s q = 0 := by
  unfold trn; exact hs (q % 8) (q / 8) (by omega) (by omega) (by omega)
theorem rowsTo_more {A B : Nat → Int} {x y : Nat} (hxy : x ≤ y) (h : ∀ q, 8 * x ≤ q → q < 8 * y → A q = B q) : rowsTo A B x = rowsTo A B y := by
  funext q
  unfold rowsTo
  by_cases h1 : q < 8 * x
  · rw [if_pos h1, if_pos (by omega)]
  · rw [if_neg h1]
    by_cases h2 : q < 8 * y
    · rw [if_pos h2]; exact h q (by omega) h2
    · rw [if_neg h2]
/-- The first part of a matrix replaced by its coproduct: the first k of it. -/
def fpt (p : Int) (c r : Nat → Int) (k : Nat) : Nat → Int := fun q => sm (fun t => c (64 * t + q / 8) * r (8 * t + q % 8)) k % p
theorem fpt_zero (p : Int) (c r : Nat → Int) : fpt p c r 0 = fun _ => 0 := by funext q; simp [fpt, sm]
theorem fpt_res {p : Int} (hp : 2 ≤ p) (c r : Nat → Int) (k N : Nat) : isRes p N (fpt p c r k) := fun _ _ => modB _ hp
theorem fpt_row (p : Int) (c r : Nat → Int) (k i j y : Nat) (hy : y < 8) : pl p (fun y => fpt p c r k (64 * i + 8 * j + y)) (c (64 * k + 8 * i + j)) (fun y => r (8 * k + y)) y = fpt p c r (k + 1) (8 * (8 * i + j) + y) := by
  unfold pl fpt
  rw [modAddL, sm, show 64 * i + 8 * j + y = 8 * (8 * i + j) + y by omega, show (8 * (8 * i + j) + y) / 8 = 8 * i + j by omega, show (8 * (8 * i + j) + y) % 8 = y by omega, Nat.add_assoc (64 * k)]
theorem fpt_same {p : Int} {c r : Nat → Int} {k q : Nat} (h : c (64 * k + q / 8) = 0) : fpt p c r k q = fpt p c r (k + 1) q := by
  unfold fpt; rw [sm, h, Int.zero_mul, Int.add_zero]
theorem mok.lz {h : HT} {len a : Nat} {w : Nat → Nat → Int} (q : mok h len w) (hS : HS h a) {i : Nat} (hi : i < len) : lz a (w i) := by
  have := q.2 i hi
  rw [hS.hn] at this
  exact this.lz
theorem mul_modc {p a a' b b' : Int} (h : a % p = a' % p) (g : b % p = b' % p) : a * b % p = a' * b' % p := by rw [Int.mul_emod a b, h, g, ← Int.mul_emod]
theorem sm64 (f : Nat → Int) : sm f 64 = sm (fun i => sm (fun j => f (8 * i + j)) 8) 8 := sm_flat f 8 8
theorem ten_at (p : Int) (m A B : Nat → Int) (j y : Nat) (hy : y < 8) :
    ten p m A B (8 * j + y) = sm (fun u => sm (fun k => A (8 * u + k) * sm (fun b => sm (fun d => B (8 * b + d) * (m (64 * u + 8 * b + j) * m (64 * k + 8 * d + y))) 8) 8) 8) 8 % p := by
  unfold ten tns
  rw [sm_0, Int.mul_zero, Int.add_zero, sm64]
  refine congrArg (· % p) (sm_congr (fun u hu => sm_congr (fun k hk => ?_)))
  rw [sm64]
  refine congrArg (A (8 * u + k) * ·) (sm_congr (fun b hb => sm_congr (fun d hd => ?_)))
  unfold tw
  rw [show (8 * u + k) / 8 = u by omega, show (8 * u + k) % 8 = k by omega, show (8 * b + d) / 8 = b by omega, show (8 * b + d) % 8 = d by omega, show (8 * j + y) / 8 = j by omega, show (8 * j + y) % 8 = y by omega]
theorem ten_modc {p : Int} {m A A' B B' : Nat → Int} (ha : ∀ t, t < 64 → A t % p = A' t % p) (hb : ∀ t, t < 64 → B t % p = B' t % p) (q : Nat) (hq : q < 64) : ten p m A B q = ten p m A' B' q := by
  rw [show q = 8 * (q / 8) + q % 8 by omega, ten_at _ _ _ _ _ _ (by omega), ten_at _ _ _ _ _ _ (by omega)]
  refine sm_modc (fun u hu => sm_modc (fun k hk => mul_modc (ha _ (by omega)) (sm_modc (fun b hb' => sm_modc (fun d hd => mul_modc (hb _ (by omega)) rfl)))))
/-- A sum over four numbers, in which two of them stand apart. -/
theorem sm_fac (al be : Nat → Int) (M L ga : Nat → Nat → Int) :
    sm (fun u => sm (fun k => al k * be u * sm (fun b => sm (fun d => ga b d * (M u b * L k d)) 8) 8) 8) 8 = sm (fun b => sm (fun u => be u * M u b) 8 * sm (fun k => sm (fun d => al k * (ga b d * L k d)) 8) 8) 8 := by
  have e1 : ∀ u, sm (fun k => al k * be u * sm (fun b => sm (fun d => ga b d * (M u b * L k d)) 8) 8) 8 = sm (fun b => be u * M u b * sm (fun k => sm (fun d => al k * (ga b d * L k d)) 8) 8) 8 := by
    intro u
    have e2 : ∀ k, al k * be u * sm (fun b => sm (fun d => ga b d * (M u b * L k d)) 8) 8 = sm (fun b => be u * M u b * sm (fun d => al k * (ga b d * L k d)) 8) 8 := by
      intro k
      rw [sm_mul]
      refine sm_congr (fun b _ => ?_)
      rw [sm_mul, sm_mul]
      refine sm_congr (fun d _ => ?_)
      ac_rfl
    rw [sm_congr (fun k _ => e2 k), sm_swap]
    exact sm_congr (fun b _ => (sm_mul _ _ _).symm)
  rw [sm_congr (fun u _ => e1 u), sm_swap]
  exact sm_congr (fun b _ => (sm_mulr _ _ _).symm)
/-- A sum in which one side is one place of a basis. -/
theorem sm_delta {p : Int} {A Q : Nat → Int} {n j : Nat} (hj : j < 8) (hA : ∀ b, b < 8 → b < n → A b % p = bas j b % p) (hQ : ∀ b, b < 8 → n ≤ b → Q b % p = 0 % p) : sm (fun b => A b * Q b) 8 % p = Q j % p := by
  have e : sm (fun b => A b * Q b) 8 % p = sm (fun b => bas j b * Q b) 8 % p := by
    refine sm_modc (fun b hb => ?_)
    by_cases h : b < n
    · exact mul_modc (hA b hb h) rfl
    · rw [mul_modc rfl (hQ b hb (by omega)), mul_modc (a := bas j b) rfl (hQ b hb (by omega))]; simp
  rw [e, sm_one hj (fun i _ hi => by unfold bas; rw [if_neg hi, Int.zero_mul])]
  unfold bas
  rw [if_pos rfl, Int.one_mul]
/-- The unit, as sums. -/
structure UN (p : Int) (n : Nat) (U m : Nat → Int) : Prop where
  l : ∀ b, b < n → ∀ j, j < 8 → sm (fun u => U u * m (64 * u + 8 * b + j)) 8 % p = bas b j % p
  r : ∀ i, i < n → ∀ x, x < 8 → sm (fun u => U u * m (64 * i + 8 * u + x)) 8 % p = bas i x % p
theorem bas_comm (i j : Nat) : bas i j = bas j i := by unfold bas; by_cases h : i = j <;> simp [h, eq_comm]
theorem units_un {p : Int} {n : Nat} {U m : Nat → Int} (hn : n ≤ 8) (hU : vz n U) (h : units p n U m) : UN p n U m := by
  refine ⟨fun b hb j hj => ?_, fun i hi x hx => ?_⟩
  · have e := (h b hb).1 j hj
    rw [← e]
    unfold pr pk
    rw [Int.emod_emod_of_dvd _ (Int.dvd_refl p)]
    simp only [sm_0, Int.add_zero]
    rw [sm_more (n := n) (m := 8) hn (fun u h1 h2 => by rw [hU u h2 h1, Int.zero_mul])]
    refine congrArg (· % p) (sm_congr (fun u hu => ?_))
    rw [sm_one hb (fun i _ hi => by unfold bas; rw [if_neg hi, Int.mul_zero, Int.zero_mul])]
    unfold bas
    rw [if_pos rfl, Int.mul_one]
  · have e := (h i hi).2 x hx
    rw [← e]
    unfold pr pk
    rw [Int.emod_emod_of_dvd _ (Int.dvd_refl p)]
    simp only [sm_0, Int.add_zero]
    rw [sm_one (f := fun i' => sm (fun j => bas i i' * U j * m (64 * i' + 8 * j + x)) n) hi (fun i' _ hi' => sm_zero (fun j _ => by unfold bas; rw [if_neg hi', Int.zero_mul, Int.zero_mul]))]
    rw [sm_more (n := n) (m := 8) hn (fun u h1 h2 => by rw [hU u h2 h1, Int.zero_mul])]
    refine congrArg (· % p) (sm_congr (fun u hu => ?_))
    unfold bas
    rw [if_pos rfl, Int.one_mul]
/-- A product of tables of three vectors. -/
def big (p : Int) (m F G : Nat → Int) : Nat → Int := fun q => sm (fun i => sm (fun a => m (64 * i + 8 * a + q / 64) * ten p m (fun z => F (64 * i + z)) (fun z => G (64 * a + z)) (q % 64)) 8) 8 % p
/-- A matrix in two of three parts. -/
def p02 (p : Int) (U r : Nat → Int) : Nat → Int := fun q => r (8 * (q / 64) + q % 8) * U (q / 8 % 8) % p
def p12 (p : Int) (U r : Nat → Int) : Nat → Int := fun q => r (q % 64) * U (q / 64) % p
def p01 (p : Int) (U r : Nat → Int) : Nat → Int := fun q => r (q / 8) * U (q % 8) % p
/-- R(13) times R(23), and R(13) times R(12). -/
def r23 (p : Int) (m r : Nat → Int) : Nat → Int := fun q => prd p m (fun k => r (8 * (q / 64) + k)) (fun d => r (8 * (q / 8 % 8) + d)) (q % 8)
def r12 (p : Int) (m r : Nat → Int) : Nat → Int := fun q => prd p m (fun k => r (8 * k + q % 8)) (fun d => r (8 * d + q / 8 % 8)) (q / 64)
theorem emod2 (a p : Int) : a % p % p = a % p := Int.emod_emod_of_dvd _ (Int.dvd_refl p)
theorem big_23 {p : Int} {n : Nat} {U m r : Nat → Int} (hu : UN p n U m) (hr : lz n r) {q : Nat} (hq : q < 512) : big p m (p02 p U r) (p12 p U r) q = r23 p m r q := by
  obtain ⟨x, j, y, hx, hj, hy, rfl⟩ : ∃ x j y, x < 8 ∧ j < 8 ∧ y < 8 ∧ q = 64 * x + 8 * j + y := ⟨q / 64, q / 8 % 8, q % 8, by omega, by omega, by omega, by omega⟩
  unfold big r23 prd
  rw [show (64 * x + 8 * j + y) / 64 = x by omega, show (64 * x + 8 * j + y) % 64 = 8 * j + y by omega, show (64 * x + 8 * j + y) / 8 % 8 = j by omega, show (64 * x + 8 * j + y) % 8 = y by omega]
  have key : ∀ i a, i < 8 → a < 8 → ten p m (fun z => p02 p U r (64 * i + z)) (fun z => p12 p U r (64 * a + z)) (8 * j + y) % p = U a * sm (fun k => sm (fun d => r (8 * i + k) * r (8 * j + d) * m (64 * k + 8 * d + y)) 8) 8 % p := by
    intro i a hi ha
    rw [ten_modc (A' := fun z => r (8 * i + z % 8) * U (z / 8)) (B' := fun z => r z * U a) (fun t ht => by
        unfold p02; rw [emod2, show 8 * ((64 * i + t) / 64) + (64 * i + t) % 8 = 8 * i + t % 8 by omega, show (64 * i + t) / 8 % 8 = t / 8 by omega]) (fun t ht => by
        unfold p12; rw [emod2, show (64 * a + t) % 64 = t by omega, show (64 * a + t) / 64 = a by omega]) _ (by omega), ten_at _ _ _ _ _ _ hy, emod2]
    rw [show sm (fun u => sm (fun k => r (8 * i + (8 * u + k) % 8) * U ((8 * u + k) / 8) * sm (fun b => sm (fun d => r (8 * b + d) * U a * (m (64 * u + 8 * b + j) * m (64 * k + 8 * d + y))) 8) 8) 8) 8
      = sm (fun u => sm (fun k => r (8 * i + k) * U u * sm (fun b => sm (fun d => (r (8 * b + d) * U a) * ((fun u b => m (64 * u + 8 * b + j)) u b * (fun k d => m (64 * k + 8 * d + y)) k d)) 8) 8) 8) 8 from
      sm_congr (fun u hu => sm_congr (fun k hk => by rw [show (8 * u + k) % 8 = k by omega, show (8 * u + k) / 8 = u by omega]))]
    rw [sm_fac (fun k => r (8 * i + k)) U (fun u b => m (64 * u + 8 * b + j)) (fun k d => m (64 * k + 8 * d + y)) (fun b d => r (8 * b + d) * U a)]
    rw [sm_delta (n := n) hj (fun b _ hb => by rw [hu.l b hb j hj, bas_comm]) (fun b hb hn => by
      rw [sm_zero (fun k _ => sm_zero (fun d hd => by rw [hr b d hb hd (.inl hn)]; simp))])]
    rw [sm_mul]
    refine congrArg (· % p) (sm_congr (fun k _ => ?_))
    rw [sm_mul]
    refine sm_congr (fun d _ => ?_)
    ac_rfl
  rw [sm_modc (fun i hi => sm_modc (fun a ha => mul_modc rfl (key i a hi ha)))]
  rw [show sm (fun i => sm (fun a => m (64 * i + 8 * a + x) * (U a * sm (fun k => sm (fun d => r (8 * i + k) * r (8 * j + d) * m (64 * k + 8 * d + y)) 8) 8)) 8) 8
    = sm (fun i => sm (fun a => U a * m (64 * i + 8 * a + x)) 8 * sm (fun k => sm (fun d => r (8 * i + k) * r (8 * j + d) * m (64 * k + 8 * d + y)) 8) 8) 8 from
    sm_congr (fun i _ => by rw [sm_mulr]; exact sm_congr (fun a _ => by ac_rfl))]
  exact sm_delta (n := n) hx (fun i _ hi => by rw [hu.r i hi x hx, bas_comm]) (fun i hi hn => by
    rw [sm_zero (fun k hk => sm_zero (fun d hd => by rw [hr i k hi hk (.inl hn)]; simp))])
theorem big_12 {p : Int} {n : Nat} {U m r : Nat → Int} (hu : UN p n U m) (hr : lz n r) {q : Nat} (hq : q < 512) : big p m (p02 p U r) (p01 p U r) q = r12 p m r q := by
  obtain ⟨x, j, y, hx, hj, hy, rfl⟩ : ∃ x j y, x < 8 ∧ j < 8 ∧ y < 8 ∧ q = 64 * x + 8 * j + y := ⟨q / 64, q / 8 % 8, q % 8, by omega, by omega, by omega, by omega⟩
  unfold big r12 prd
  rw [show (64 * x + 8 * j + y) / 64 = x by omega, show (64 * x + 8 * j + y) % 64 = 8 * j + y by omega, show (64 * x + 8 * j + y) / 8 % 8 = j by omega, show (64 * x + 8 * j + y) % 8 = y by omega]
  have key : ∀ i a, i < 8 → a < 8 → ten p m (fun z => p02 p U r (64 * i + z)) (fun z => p01 p U r (64 * a + z)) (8 * j + y) % p = r (8 * i + y) * r (8 * a + j) % p := by
    intro i a hi ha
    rw [ten_modc (A' := fun z => r (8 * i + z % 8) * U (z / 8)) (B' := fun z => r (8 * a + z / 8) * U (z % 8)) (fun t ht => by
        unfold p02; rw [emod2, show 8 * ((64 * i + t) / 64) + (64 * i + t) % 8 = 8 * i + t % 8 by omega, show (64 * i + t) / 8 % 8 = t / 8 by omega]) (fun t ht => by
        unfold p01; rw [emod2, show (64 * a + t) / 8 = 8 * a + t / 8 by omega, show (64 * a + t) % 8 = t % 8 by omega]) _ (by omega), ten_at _ _ _ _ _ _ hy, emod2]
    rw [show sm (fun u => sm (fun k => r (8 * i + (8 * u + k) % 8) * U ((8 * u + k) / 8) * sm (fun b => sm (fun d => r (8 * a + (8 * b + d) / 8) * U ((8 * b + d) % 8) * (m (64 * u + 8 * b + j) * m (64 * k + 8 * d + y))) 8) 8) 8) 8
      = sm (fun u => sm (fun k => r (8 * i + k) * U u * sm (fun b => sm (fun d => (r (8 * a + b) * U d) * ((fun u b => m (64 * u + 8 * b + j)) u b * (fun k d => m (64 * k + 8 * d + y)) k d)) 8) 8) 8) 8 from
      sm_congr (fun u hu => sm_congr (fun k hk => by
        rw [show (8 * u + k) % 8 = k by omega, show (8 * u + k) / 8 = u by omega]
        refine congrArg (r (8 * i + k) * U u * ·) (sm_congr (fun b hb => sm_congr (fun d hd => ?_)))
        rw [show (8 * b + d) / 8 = b by omega, show (8 * b + d) % 8 = d by omega]))]
    rw [sm_fac (fun k => r (8 * i + k)) U (fun u b => m (64 * u + 8 * b + j)) (fun k d => m (64 * k + 8 * d + y)) (fun b d => r (8 * a + b) * U d)]
    rw [sm_delta (n := n) hj (fun b _ hb => by rw [hu.l b hb j hj, bas_comm]) (fun b hb hn => by
      rw [sm_zero (fun k _ => sm_zero (fun d hd => by rw [hr a b ha hb (.inr hn)]; simp))])]
    rw [show sm (fun k => sm (fun d => r (8 * i + k) * (r (8 * a + j) * U d * (fun k d => m (64 * k + 8 * d + y)) k d)) 8) 8 = sm (fun k => sm (fun d => U d * m (64 * k + 8 * d + y)) 8 * (r (8 * i + k) * r (8 * a + j))) 8 from
      sm_congr (fun k _ => by rw [sm_mulr]; exact sm_congr (fun d _ => by (try dsimp only); ac_rfl))]
    exact sm_delta (n := n) hy (fun k _ hk => by rw [hu.r k hk y hy, bas_comm]) (fun k hk hn => by rw [hr i k hi hk (.inr hn)]; simp)
  rw [sm_modc (fun i hi => sm_modc (fun a ha => mul_modc rfl (key i a hi ha)))]
  exact congrArg (· % p) (sm_congr (fun i _ => sm_congr (fun a _ => by ac_rfl)))
/-- What is not to be tried as a load's value. -/
structure Bx (Q : Prop) : Prop where
  out : Q
/-- What is there but for one block is there. -/
def Off (bo : Nat) (H H2 : Hp) : Prop := ∀ b k, b ≠ bo → H.get b = some k → H2.get b = some k
theorem Off.refl (bo : Nat) (H : Hp) : Off bo H H := fun _ _ _ h => h
theorem Off.set {bo : Nat} {c : Nat → SV} {H H2 : Hp} (h : Off bo H H2) : Off bo H (H2.set bo c) := fun b' k' hb hk => by
  rw [Hp.get_set_other _ (Ne.symm hb)]; exact h b' k' hb hk
/-- The sum of the first t rows of 64, of row t up to s. -/
def s2 (f : Nat → Nat → Int) (t s : Nat) : Int := sm (fun t => sm (fun s => f t s) 64) t + sm (fun s => f t s) s
theorem s2_zero (f : Nat → Nat → Int) : s2 f 0 0 = 0 := by simp [s2, sm]
theorem s2_next (f : Nat → Nat → Int) (t : Nat) : s2 f t 64 = s2 f (t + 1) 0 := by
  unfold s2
  rw [show sm (fun t => sm (fun s => f t s) 64) (t + 1) = sm (fun t => sm (fun s => f t s) 64) t + sm (fun s => f t s) 64 from rfl, sm_0, Int.add_zero]
theorem s2_step (f : Nat → Nat → Int) (t s : Nat) : s2 f t s + f t s = s2 f t (s + 1) := by
  unfold s2
  rw [show sm (fun s => f t s) (s + 1) = sm (fun s => f t s) s + f t s from rfl, Int.add_assoc]
theorem s2_moreT {f : Nat → Nat → Int} {t t' : Nat} (h : t ≤ t') (hz : ∀ u, t ≤ u → u < t' → ∀ s, s < 64 → f u s = 0) : s2 f t' 0 = s2 f t 0 := by
  unfold s2; rw [sm_0, sm_0, sm_more h fun u h1 h2 => sm_zero (hz u h1 h2)]
theorem s2_modc {f g : Nat → Nat → Int} {p : Int} (h : ∀ t s, f t s % p = g t s % p) (t s : Nat) : s2 f t s % p = s2 g t s % p := by
  unfold s2
  rw [Int.add_emod, sm_modc (f := fun t => sm (fun s => f t s) 64) (g := fun t => sm (fun s => g t s) 64) (fun u _ => sm_modc fun v _ => h u v), sm_modc (f := fun s => f t s) (g := fun s => g t s) (fun v _ => h t v), ← Int.add_emod]
/-- S on the first part of a matrix, the first so many rows. -/
def und (p : Int) (s r : Nat → Int) (k : Nat) : Nat → Int := fun q => sm (fun t => s (8 * t + q / 8) * r (8 * t + q % 8)) k % p
theorem und_zero (p : Int) (s r : Nat → Int) : und p s r 0 = fun _ => 0 := by funext q; simp [und, sm]
theorem und_res {p : Int} (hp : 2 ≤ p) (s r : Nat → Int) (k N : Nat) : isRes p N (und p s r k) := fun _ _ => modB _ hp
theorem und_row (p : Int) (s r : Nat → Int) (k i y : Nat) (hy : y < 8) : pl p (fun y => und p s r k (8 * i + y)) (s (8 * k + i)) (fun y => r (8 * k + y)) y = und p s r (k + 1) (8 * i + y) := by
  unfold und pl
  rw [modAddL, sm, show (8 * i + y) / 8 = i by omega, show (8 * i + y) % 8 = y by omega]
theorem und_same {p : Int} {s r : Nat → Int} {k q : Nat} (h : s (8 * k + q / 8) = 0) : und p s r k q = und p s r (k + 1) q := by unfold und; rw [sm, h, Int.zero_mul, Int.add_zero]
/-- The second part of a matrix replaced by its coproduct. -/
def snd (p : Int) (c r : Nat → Int) : Nat → Int := fun q => cps p c (fun x => r (8 * (q / 64) + x)) 8 (q % 64)
def spt (p : Int) (c r : Nat → Int) (i b : Nat) : Nat → Int := fun q => if q < 64 * i then snd p c r q else if q < 64 * (i + 1) then cps p c (fun x => r (8 * i + x)) b (q - 64 * i) else 0
theorem spt_zero (p : Int) (c r : Nat → Int) : spt p c r 0 0 = fun _ => 0 := by
  funext q; unfold spt; rw [if_neg (by omega), cps_zero]; split <;> rfl
theorem spt_next (p : Int) (c r : Nat → Int) (i : Nat) : spt p c r i 8 = spt p c r (i + 1) 0 := by
  funext q; unfold spt
  by_cases h1 : q < 64 * i
  · rw [if_pos h1, if_pos (by omega)]
  · rw [if_neg h1]
    by_cases h2 : q < 64 * (i + 1)
    · rw [if_pos h2, if_pos h2]; unfold snd; rw [show q / 64 = i by omega, show q % 64 = q - 64 * i by omega]
    · rw [if_neg h2, if_neg h2, cps_zero]; split <;> rfl
theorem spt_res {p : Int} (hp : 2 ≤ p) (c r : Nat → Int) (i b N : Nat) : isRes p N (spt p c r i b) := fun q _ => by
  unfold spt snd
  split
  · exact cps_res hp c _ 8 (q % 64 + 1) _ (by omega)
  · split
    · exact cps_res hp c _ b (q - 64 * i + 1) _ (by omega)
    · exact ⟨Int.le_refl 0, by omega⟩
theorem spt_at (p : Int) (c r : Nat → Int) (i b j y : Nat) (hj : j < 8) (hy : y < 8) : spt p c r i b (64 * i + 8 * j + y) = cps p c (fun x => r (8 * i + x)) b (8 * j + y) := by
  unfold spt; rw [if_neg (by omega), if_pos (by omega), show 64 * i + 8 * j + y - 64 * i = 8 * j + y by omega]
theorem spt_row (p : Int) (c r : Nat → Int) (i b j y : Nat) (hj : j < 8) (hy : y < 8) :
    pl p (fun y => spt p c r i b (64 * i + 8 * j + y)) (r (8 * i + b)) (fun y => c (64 * b + 8 * j + y)) y = spt p c r i (b + 1) (8 * (8 * i + j) + y) := by
  rw [show 8 * (8 * i + j) + y = 64 * i + 8 * j + y by omega, spt_at _ _ _ _ _ _ _ hj hy, ← cps_row]
  unfold pl
  dsimp only
  rw [spt_at _ _ _ _ _ _ _ hj hy]
theorem spt_same {p : Int} {c r : Nat → Int} {i b q : Nat} (h : q < 64 * i ∨ c (64 * b + (q - 64 * i)) = 0) : spt p c r i b q = spt p c r i (b + 1) q := by
  unfold spt
  by_cases h1 : q < 64 * i
  · rw [if_pos h1, if_pos h1]
  · rw [if_neg h1, if_neg h1]
    have h2 : c (64 * b + (q - 64 * i)) = 0 := by omega
    rw [show cps p c (fun x => r (8 * i + x)) b (q - 64 * i) = cps p c (fun x => r (8 * i + x)) (b + 1) (q - 64 * i) by unfold cps; rw [sm, h2, Int.mul_zero, Int.add_zero]]
theorem snd_zero {p : Int} {c r : Nat → Int} {a q : Nat} (hr : lz a r) (h : 64 * a ≤ q) (hq : q < 512) : snd p c r q = 0 := by
  unfold snd cps
  rw [sm_zero (fun i hi => by dsimp only; rw [hr (q / 64) i (by omega) hi (.inl (by omega)), Int.zero_mul])]; rfl
theorem spt_end {p : Int} {c r : Nat → Int} {a q : Nat} (hr : lz a r) (hq : q < 512) : spt p c r a 0 q = snd p c r q := by
  unfold spt
  by_cases h1 : q < 64 * a
  · rw [if_pos h1]
  · rw [if_neg h1, snd_zero hr (by omega) hq, cps_zero]; split <;> rfl
/-- R(13) times R(23): as it is summed. -/
def f23 (m r : Nat → Int) (q t s : Nat) : Int := if t / 8 = q / 64 ∧ s / 8 = q / 8 % 8 then r t * r s * m (64 * (t % 8) + 8 * (s % 8) + q % 8) else 0
def q23 (p : Int) (m r : Nat → Int) (t s : Nat) : Nat → Int := fun q => s2 (f23 m r q) t s % p
theorem q23_zero (p : Int) (m r : Nat → Int) : q23 p m r 0 0 = fun _ => 0 := by funext q; unfold q23; rw [s2_zero]; rfl
theorem q23_next (p : Int) (m r : Nat → Int) (t : Nat) : q23 p m r t 64 = q23 p m r (t + 1) 0 := by funext q; unfold q23; rw [s2_next]
theorem q23_res {p : Int} (hp : 2 ≤ p) (m r : Nat → Int) (t s N : Nat) : isRes p N (q23 p m r t s) := fun _ _ => modB _ hp
theorem f23_zt {m r : Nat → Int} {q t s : Nat} (h : r t = 0) : f23 m r q t s = 0 := by unfold f23; split <;> simp [h]
theorem f23_zs {m r : Nat → Int} {q t s : Nat} (h : r s = 0) : f23 m r q t s = 0 := by unfold f23; split <;> simp [h]
theorem q23_skip {p : Int} {m r : Nat → Int} {t : Nat} (h : r t = 0) : q23 p m r (t + 1) 0 = q23 p m r t 0 := by
  funext q; unfold q23; rw [s2_moreT (t := t) (t' := t + 1) (by omega) (fun u h1 h2 s _ => by rw [show u = t by omega]; exact f23_zt h)]
theorem q23_same {p : Int} {m r : Nat → Int} {t s : Nat} (h : r s = 0) : q23 p m r t (s + 1) = q23 p m r t s := by
  funext q; unfold q23; rw [← s2_step, f23_zs h, Int.add_zero]
theorem q23_row (p : Int) (m r : Nat → Int) (a b c d y : Nat) (hb : b < 8) (hc : c < 8) (hd : d < 8) (hy : y < 8) :
    pl p (fun y => q23 p m r (8 * a + c) (8 * b + d) (64 * a + 8 * b + y)) (r (8 * a + c) * r (8 * b + d)) (fun y => m (64 * c + 8 * d + y)) y = q23 p m r (8 * a + c) (8 * b + d + 1) (64 * a + 8 * b + y) := by
  unfold pl q23
  rw [modAddL, ← s2_step]
  unfold f23
  rw [if_pos (by omega), show (8 * a + c) % 8 = c by omega, show (8 * b + d) % 8 = d by omega, show (64 * a + 8 * b + y) % 8 = y by omega]
theorem q23_else {p : Int} {m r : Nat → Int} {t s q : Nat} (h : q / 8 ≠ 8 * (t / 8) + s / 8) (_ : s < 64) : q23 p m r t s q = q23 p m r t (s + 1) q := by
  unfold q23
  rw [← s2_step]
  unfold f23
  rw [if_neg (by omega), Int.add_zero]
theorem q23_splice {p : Int} {m r : Nat → Int} {a b c d : Nat} (hb : b < 8) (hc : c < 8) (hd : d < 8) {w : Nat → Int} (hw : ∀ y, y < 8 → w y = q23 p m r (8 * a + c) (8 * b + d + 1) (64 * a + 8 * b + y)) (q : Nat) :
    splice (bys (q23 p m r (8 * a + c) (8 * b + d))) (64 * a + 8 * b) 8 (bys w) q = bys (q23 p m r (8 * a + c) (8 * b + d + 1)) q := by
  unfold splice
  split
  · unfold bys
    rw [hw _ (by omega), show 64 * a + 8 * b + (q - (64 * a + 8 * b)) = q by omega]
  · unfold bys
    rw [q23_else (by omega) (by omega)]
theorem q23_end (p : Int) (m r : Nat → Int) {q : Nat} (hq : q < 512) : q23 p m r 64 0 q = r23 p m r q := by
  unfold q23 r23 prd s2
  rw [sm_0, Int.add_zero, sm64]
  rw [sm_one (j := q / 64) (by omega) (fun a ha hne => sm_zero (fun c hc => sm_zero (fun s hs => by unfold f23; rw [if_neg (by omega)])))]
  refine congrArg (· % p) (sm_congr (fun c hc => ?_))
  rw [sm64, sm_one (j := q / 8 % 8) (by omega) (fun b hb hne => sm_zero (fun d hd => by unfold f23; rw [if_neg (by omega)]))]
  refine sm_congr (fun d hd => ?_)
  unfold f23
  rw [if_pos (by omega), show (8 * (q / 64) + c) % 8 = c by omega, show (8 * (q / 8 % 8) + d) % 8 = d by omega]
/-- R(13) times R(12): as it is summed. -/
def f12 (p : Int) (m r : Nat → Int) (q t s : Nat) : Int := if t % 8 = q % 8 ∧ s % 8 = q / 8 % 8 then r t * r s % p * m (64 * (t / 8) + 8 * (s / 8) + q / 64) else 0
def q12 (p : Int) (m r : Nat → Int) (t s : Nat) : Nat → Int := fun q => s2 (f12 p m r q) t s % p
theorem q12_zero (p : Int) (m r : Nat → Int) : q12 p m r 0 0 = fun _ => 0 := by funext q; unfold q12; rw [s2_zero]; rfl
theorem q12_next (p : Int) (m r : Nat → Int) (t : Nat) : q12 p m r t 64 = q12 p m r (t + 1) 0 := by funext q; unfold q12; rw [s2_next]
theorem q12_res {p : Int} (hp : 2 ≤ p) (m r : Nat → Int) (t s N : Nat) : isRes p N (q12 p m r t s) := fun _ _ => modB _ hp
theorem f12_zt {p : Int} {m r : Nat → Int} {q t s : Nat} (h : r t = 0) : f12 p m r q t s = 0 := by unfold f12; split <;> simp [h]
theorem f12_zs {p : Int} {m r : Nat → Int} {q t s : Nat} (h : r s = 0) : f12 p m r q t s = 0 := by unfold f12; split <;> simp [h]
theorem q12_skip {p : Int} {m r : Nat → Int} {t : Nat} (h : r t = 0) : q12 p m r (t + 1) 0 = q12 p m r t 0 := by
  funext q; unfold q12; rw [s2_moreT (t := t) (t' := t + 1) (by omega) (fun u h1 h2 s _ => by rw [show u = t by omega]; exact f12_zt h)]
theorem q12_same {p : Int} {m r : Nat → Int} {t s : Nat} (h : r s = 0) : q12 p m r t (s + 1) = q12 p m r t s := by
  funext q; unfold q12; rw [← s2_step, f12_zs h, Int.add_zero]
theorem q12_step (p : Int) (m r : Nat → Int) (a b c d i : Nat) (hc : c < 8) (hd : d < 8) :
    (q12 p m r (8 * a + c) (8 * b + d) (64 * i + 8 * d + c) + r (8 * a + c) * r (8 * b + d) % p * m (64 * a + 8 * b + i)) % p = q12 p m r (8 * a + c) (8 * b + d + 1) (64 * i + 8 * d + c) := by
  unfold q12
  rw [modAddL, ← s2_step]
  unfold f12
  rw [if_pos (by omega), show (8 * a + c) / 8 = a by omega, show (8 * b + d) / 8 = b by omega, show (64 * i + 8 * d + c) / 64 = i by omega]
theorem q12_else {p : Int} {m r : Nat → Int} {a b c d q : Nat} (hc : c < 8) (hd : d < 8) (h : q % 64 ≠ 8 * d + c) : q12 p m r (8 * a + c) (8 * b + d) q = q12 p m r (8 * a + c) (8 * b + d + 1) q := by
  unfold q12
  rw [← s2_step]
  unfold f12
  rw [if_neg (by omega), Int.add_zero]
theorem q12_end (p : Int) (m r : Nat → Int) {q : Nat} (hq : q < 512) : q12 p m r 64 0 q = r12 p m r q := by
  unfold q12 r12 prd
  rw [s2_modc (g := fun t s => if t % 8 = q % 8 ∧ s % 8 = q / 8 % 8 then r t * r s * m (64 * (t / 8) + 8 * (s / 8) + q / 64) else 0) (fun t s => by
    unfold f12; split
    · exact mul_modc (emod2 _ _) rfl
    · rfl)]
  unfold s2
  rw [sm_0, Int.add_zero, sm64]
  refine congrArg (· % p) (sm_congr (fun a ha => ?_))
  rw [sm_one (j := q % 8) (by omega) (fun c hc hne => sm_zero (fun s hs => by dsimp only; rw [if_neg (by omega)]))]
  rw [sm64]
  refine sm_congr (fun b hb => ?_)
  rw [sm_one (j := q / 8 % 8) (by omega) (fun d hd hne => by dsimp only; rw [if_neg (by omega)])]
  dsimp only
  rw [if_pos (by omega), show (8 * a + q % 8) / 8 = a by omega, show (8 * b + q / 8 % 8) / 8 = b by omega]
/-- A product of tables of three vectors, as it is summed. -/
def bgt (p : Int) (m F G : Nat → Int) (i a : Nat) : Nat → Int := fun q => m (64 * i + 8 * a + q / 64) * ten p m (fun z => F (64 * i + z)) (fun z => G (64 * a + z)) (q % 64)
def bgs (p : Int) (m F G : Nat → Int) (i a : Nat) : Nat → Int := fun q => (sm (fun i => sm (fun a => bgt p m F G i a q) 8) i + sm (fun a => bgt p m F G i a q) a) % p
theorem bgs_zero (p : Int) (m F G : Nat → Int) : bgs p m F G 0 0 = fun _ => 0 := by funext q; simp [bgs, sm]
theorem bgs_next (p : Int) (m F G : Nat → Int) (i : Nat) : bgs p m F G i 8 = bgs p m F G (i + 1) 0 := by funext q; simp [bgs, sm]
theorem bgs_res {p : Int} (hp : 2 ≤ p) (m F G : Nat → Int) (i a N : Nat) : isRes p N (bgs p m F G i a) := fun _ _ => modB _ hp
theorem bgs_same {p : Int} {m F G : Nat → Int} {i a q : Nat} (h : bgt p m F G i a q = 0) : bgs p m F G i a q = bgs p m F G i (a + 1) q := by unfold bgs; rw [sm.eq_2 _ a, h, Int.add_zero]
theorem bgs_row (p : Int) (m F G : Nat → Int) (i a x j y : Nat) (hj : j < 8) (hy : y < 8) :
    pl p (fun y => bgs p m F G i a (64 * x + 8 * j + y)) (m (64 * i + 8 * a + x)) (fun y => ten p m (fun z => F (64 * i + z)) (fun z => G (64 * a + z)) (8 * j + y)) y = bgs p m F G i (a + 1) (8 * (8 * x + j) + y) := by
  unfold pl bgs
  rw [modAddL, sm.eq_2 _ a, show 8 * (8 * x + j) + y = 64 * x + 8 * j + y by omega]
  rw [← Int.add_assoc]
  congr 2
  unfold bgt
  rw [show (64 * x + 8 * j + y) / 64 = x by omega, show (64 * x + 8 * j + y) % 64 = 8 * j + y by omega]
theorem ten_zero {p : Int} {m A B : Nat → Int} {n q : Nat} (hm : tz n m) (hq : q < 64) (h : 8 * n ≤ q) : ten p m A B q = 0 := by
  rw [show q = 8 * (q / 8) + q % 8 by omega, ten_at _ _ _ _ _ _ (by omega)]
  rw [sm_zero (fun u hu => sm_zero (fun k hk => by rw [sm_zero (fun b hb => sm_zero (fun d hd => by rw [hm u b (q / 8) hu hb (by omega) (by omega)]; simp))]; simp))]
  rfl
theorem ten_none {p : Int} {m A B : Nat → Int} (h : (∀ t, t < 64 → A t = 0) ∨ (∀ t, t < 64 → B t = 0)) {q : Nat} (hq : q < 64) : ten p m A B q = 0 := by
  rw [show q = 8 * (q / 8) + q % 8 by omega, ten_at _ _ _ _ _ _ (by omega)]
  rcases h with h | h
  · rw [sm_zero (fun u hu => sm_zero (fun k hk => by rw [h _ (by omega), Int.zero_mul]))]; rfl
  · rw [sm_zero (fun u hu => sm_zero (fun k hk => by rw [sm_zero (fun b hb => sm_zero (fun d hd => by rw [h _ (by omega), Int.zero_mul])), Int.mul_zero]))]; rfl
theorem bgs_end {p : Int} {m F G : Nat → Int} {n : Nat} (hm : tz n m) (hn : n ≤ 8) {q : Nat} (hq : q < 512) : bgs p m F G n 0 q = big p m F G q := by
  unfold bgs big
  rw [sm_0, Int.add_zero, sm_more (n := n) (m := 8) hn (fun i h1 h2 => sm_zero (fun a ha => by rw [hm i a (q / 64) h2 ha (by omega) (.inl h1), Int.zero_mul]))]
  rfl
/-- Cells that have been written, in the order of their numbers. -/
def sel (R : Nat → Nat) (f : Nat → Int) (N : Nat) : Nat → Int := fun q => if R q < N then f q else 0
theorem sel_zero (R : Nat → Nat) (f : Nat → Int) : sel R f 0 = fun _ => 0 := by funext q; unfold sel; rw [if_neg (by omega)]
theorem sel_more {R : Nat → Nat} {f : Nat → Int} {N N' q : Nat} (h : N ≤ N') (hz : N ≤ R q → R q < N' → f q = 0) : sel R f N q = sel R f N' q := by
  unfold sel
  by_cases h1 : R q < N
  · rw [if_pos h1, if_pos (by omega)]
  · rw [if_neg h1]
    by_cases h2 : R q < N'
    · rw [if_pos h2, hz (by omega) h2]
    · rw [if_neg h2]
theorem sel_step {R : Nat → Nat} {f : Nat → Int} {N D : Nat} (hD : R D = N) (q : Nat) (hu : R q = N → q = D) {v : Int} (hv : v = f D) : put1 (bys (sel R f N)) D (.int .u8 v) q = bys (sel R f (N + 1)) q := by
  unfold put1 bys sel
  by_cases h : q = D
  · subst h; rw [if_pos rfl, if_pos (by omega), hv]
  · rw [if_neg h]
    by_cases h1 : R q < N
    · rw [if_pos h1, if_pos (by omega)]
    · rw [if_neg h1, if_neg (by omega)]
theorem tabsTo_cell {A B : Nat → Int} {i r : Nat} (hr : r < 64) (h : ∀ q, q % 64 ≠ r → A q = B q) {v : Int} (hv : v = B (64 * i + r)) (q : Nat) : put1 (bys (tabsTo A B i)) (64 * i + r) (.int .u8 v) q = bys (tabsTo A B (i + 1)) q := by
  unfold put1 bys tabsTo
  by_cases h1 : q = 64 * i + r
  · subst h1; rw [if_pos rfl, if_pos (by omega), hv]
  · rw [if_neg h1]
    by_cases h2 : q < 64 * i
    · rw [if_pos h2, if_pos (by omega)]
    · rw [if_neg h2]
      by_cases h3 : q < 64 * (i + 1)
      · rw [if_pos h3, h q (by omega)]
      · rw [if_neg h3]
def tur (h : HT) (a : Nat) (s : Nat → Int) : Prop := ∀ i : Nat, i < a → ∀ q, q < 64 → ten h.p h.m s (fun q => h.c (64 * i + q)) q = ten h.p h.m (trn (fun q => h.c (64 * i + q))) s q
def cn2 (h : HT) (a : Nat) (s : Nat → Int) : Prop := ∀ q, q < 512 → fpt h.p h.c s a q = r23 h.p h.m s q
def cn3 (h : HT) (s : Nat → Int) : Prop := ∀ q, q < 512 → snd h.p h.c s q = r12 h.p h.m s q
def cn4 (h : HT) (a : Nat) (s : Nat → Int) : Prop := (∀ q, q < 64 → ten h.p h.m s (und h.p h.s s a) q = outer h.p h.u h.u q) ∧ (∀ q, q < 64 → ten h.p h.m (und h.p h.s s a) s q = outer h.p h.u h.u q)
/-- The first condition of universal matrices that does not hold. -/
noncomputable def cnd (h : HT) (a : Nat) (s : Nat → Int) : Int := if tb (tur h a s) = true then if tb (cn2 h a s) = true then if tb (cn3 h s) = true then if tb (cn4 h a s) = true then 0 else 4 else 3 else 2 else 1
theorem cnd_1 {h : HT} {a : Nat} {s : Nat → Int} (h1 : ¬tur h a s) : cnd h a s = 1 := by unfold cnd; rw [tb_false h1]; rfl
theorem cnd_2 {h : HT} {a : Nat} {s : Nat → Int} (h1 : tur h a s) (h2 : ¬cn2 h a s) : cnd h a s = 2 := by unfold cnd; rw [tb_true h1, tb_false h2]; rfl
theorem cnd_3 {h : HT} {a : Nat} {s : Nat → Int} (h1 : tur h a s) (h2 : cn2 h a s) (h3 : ¬cn3 h s) : cnd h a s = 3 := by unfold cnd; rw [tb_true h1, tb_true h2, tb_false h3]; rfl
theorem cnd_4 {h : HT} {a : Nat} {s : Nat → Int} (h1 : tur h a s) (h2 : cn2 h a s) (h3 : cn3 h s) (h4 : ¬cn4 h a s) : cnd h a s = 4 := by unfold cnd; rw [tb_true h1, tb_true h2, tb_true h3, tb_false h4]; rfl
theorem cnd_0 {h : HT} {a : Nat} {s : Nat → Int} (h1 : tur h a s) (h2 : cn2 h a s) (h3 : cn3 h s) (h4 : cn4 h a s) : cnd h a s = 0 := by unfold cnd; rw [tb_true h1, tb_true h2, tb_true h3, tb_true h4]; rfl
theorem bgs_a {p : Int} {m F G : Nat → Int} {n i q : Nat} (hm : tz n m) (hn : n ≤ 8) (hi : i < 8) (hq : q < 512) : bgs p m F G i n q = bgs p m F G (i + 1) 0 q := by
  rw [← bgs_next]
  unfold bgs
  rw [sm_more (f := fun a => bgt p m F G i a q) (n := n) (m := 8) hn (fun a h1 h2 => by unfold bgt; rw [hm i a (q / 64) hi h2 (by omega) (.inr (.inl h1)), Int.zero_mul])]
end Go.V
namespace Go.Proofs.YtbknndbfbebkdabGreatR
open Go.V
set_option linter.unusedSimpArgs false
set_option linter.unusedVariables false
set_option maxHeartbeats 4000000
/-- The order in which the places of a table of three vectors are gone through. -/
structure PT (one other : Nat) (A0 A1 A2 : Nat → Nat → Nat → Nat) (R : Nat → Nat) : Prop where
  h1 : one < 3
  h2 : other < 3
  at0 : ∀ (c : Nat → SV) (j k u : Nat), (∀ q, q < 3 → c q = .int .i64 u) → put1 (put1 c one (.int .i64 j)) other (.int .i64 k) 0 = .int .i64 (A0 j k u)
  at1 : ∀ (c : Nat → SV) (j k u : Nat), (∀ q, q < 3 → c q = .int .i64 u) → put1 (put1 c one (.int .i64 j)) other (.int .i64 k) 1 = .int .i64 (A1 j k u)
  at2 : ∀ (c : Nat → SV) (j k u : Nat), (∀ q, q < 3 → c q = .int .i64 u) → put1 (put1 c one (.int .i64 j)) other (.int .i64 k) 2 = .int .i64 (A2 j k u)
  lt : ∀ j k u, j < 8 → k < 8 → u < 8 → A0 j k u < 8 ∧ A1 j k u < 8 ∧ A2 j k u < 8
  rk : ∀ j k u, j < 8 → k < 8 → u < 8 → R (64 * A0 j k u + 8 * A1 j k u + A2 j k u) = 64 * j + 8 * k + u
  rl : ∀ q, q < 512 → R q < 512
  un : ∀ j k u q, j < 8 → k < 8 → u < 8 → q < 512 → R q = 64 * j + 8 * k + u → q = 64 * A0 j k u + 8 * A1 j k u + A2 j k u
theorem PT.p02 : PT 0 2 (fun j _ _ => j) (fun _ _ u => u) (fun _ k _ => k) (fun q => 64 * (q / 64) + 8 * (q % 8) + q / 8 % 8) :=
  ⟨by decide, by decide, fun c j k u h => rfl, fun c j k u h => h 1 (by decide), fun c j k u h => rfl, fun j k u hj hk hu => ⟨hj, hu, hk⟩, fun j k u hj hk hu => by (try dsimp only); omega, fun q hq => by (try dsimp only); omega, fun j k u q hj hk hu hq e => by
    (try dsimp only at e)
    have b1 : q % 8 < 8 := by omega
    have b2 : q / 8 % 8 < 8 := by omega
    have b3 : q = 64 * (q / 64) + 8 * (q / 8 % 8) + q % 8 := by omega
    generalize q / 64 = A at e b3
    generalize q % 8 = B at e b1 b3
    generalize q / 8 % 8 = C at e b2 b3
    have e1 : A = j := by omega
    subst e1
    have e2 : B = k := by omega
    omega⟩
theorem PT.p12 : PT 1 2 (fun _ _ u => u) (fun j _ _ => j) (fun _ k _ => k) (fun q => q % 64 * 8 + q / 64) :=
  ⟨by decide, by decide, fun c j k u h => h 0 (by decide), fun c j k u h => rfl, fun c j k u h => rfl, fun j k u hj hk hu => ⟨hu, hj, hk⟩, fun j k u hj hk hu => by (try dsimp only); omega, fun q hq => by (try dsimp only); omega, fun j k u q hj hk hu hq e => by
    (try dsimp only at e)
    have e1 : q / 64 < 8 := by omega
    have e2 : q / 64 = u := by omega
    omega⟩
theorem PT.p01 : PT 0 1 (fun j _ _ => j) (fun _ k _ => k) (fun _ _ u => u) (fun q => q) :=
  ⟨by decide, by decide, fun c j k u h => rfl, fun c j k u h => rfl, fun c j k u h => h 2 (by decide), fun j k u hj hk hu => ⟨hj, hk, hu⟩, fun j k u hj hk hu => rfl, fun q hq => hq, fun j k u q hj hk hu hq e => e⟩
end Go.Proofs.YtbknndbfbebkdabGreatR
namespace Go.V
set_option linter.unusedSimpArgs false
set_option linter.unusedVariables false
set_option maxHeartbeats 4000000
theorem isHopf.un {h : HT} (q : isHopf h) : UN h.p h.N h.u h.m := by
  obtain ⟨a, hS⟩ := q.1.hs
  have hN := hS.N
  have e : isAlg h.p h.n h.u h.m := firstNot_zero.1 q.2 0 (by omega) (by omega)
  exact units_un (by rw [hN]; exact hS.ha) (by rw [hN]; exact hS.um) e.2.1
theorem p02_by {p : Int} (hp : 2 ≤ p ∧ p ≤ 31) (U r : Nat → Int) : isBy 512 (p02 p U r) := fun q _ => by have := modB (r (8 * (q / 64) + q % 8) * U (q / 8 % 8)) hp.1; unfold p02; omega
theorem p12_by {p : Int} (hp : 2 ≤ p ∧ p ≤ 31) (U r : Nat → Int) : isBy 512 (p12 p U r) := fun q _ => by have := modB (r (q % 64) * U (q / 64)) hp.1; unfold p12; omega
theorem p01_by {p : Int} (hp : 2 ≤ p ∧ p ≤ 31) (U r : Nat → Int) : isBy 512 (p01 p U r) := fun q _ => by have := modB (r (q / 8) * U (q % 8)) hp.1; unfold p01; omega
/-- The first number that is not 0, of so many. -/
def fstz (w : Nat → Int) : Nat → Int
  | 0 => 0
  | k + 1 => if w 0 ≠ 0 then w 0 else fstz (fun i => w (i + 1)) k
theorem fstz_hit : ∀ (len : Nat) (w : Nat → Int) (i : Nat), i < len → (∀ j, j < i → w j = 0) → w i ≠ 0 → fstz w len = w i := by
  intro len
  induction len with
  | zero => intro w i hi; omega
  | succ k ih =>
    intro w i hi h0 h1
    unfold fstz
    cases i with
    | zero => rw [if_pos h1]
    | succ i =>
      rw [if_neg (fun q => q (h0 0 (by omega)))]
      exact ih (fun j => w (j + 1)) i (by omega) (fun j hj => h0 (j + 1) (by omega)) h1
theorem fstz_none : ∀ (len : Nat) (w : Nat → Int), (∀ j, j < len → w j = 0) → fstz w len = 0 := by
  intro len
  induction len with
  | zero => intro w _; rfl
  | succ k ih =>
    intro w h0
    unfold fstz
    rw [if_neg (fun q => q (h0 0 (by omega)))]
    exact ih (fun j => w (j + 1)) (fun j hj => h0 (j + 1) (by omega))
/-- So many numbers that are 0. -/
structure Zw (w : Nat → Int) (i : Nat) : Prop where
  h : ∀ j, j < i → w j = 0
/-- What is left of a tree of orders. -/
structure OTW (P : Program) (N m : Nat) (l : List Ins) (t : OT) (e : Env) (H : Hp) (n : Nat) (K : Env → Hp → Prop) : Prop where
  h : OTS P N m l t e H n K
/-- A slice of numbers. -/
def lsi (H : Hp) (v : SV) (len : Nat) (w : Nat → Int) : Prop :=
  ∃ b c K, v = .slc b 0 len c ∧ H.get b = some K ∧ K.size = len ∧ ∀ q, q < len → K.c q = .int .i64 (w q)
/-- Two numbers. -/
def twi (a b : Int) (q : Nat) : Int := if q = 0 then a else b
theorem fstz2 (a b : Int) : fstz (twi a b) 2 = if a ≠ 0 then a else b := by
  have e0 : twi a b 0 = a := rfl
  have e1 : twi a b 1 = b := rfl
  unfold fstz
  rw [e0]
  split
  · rfl
  · unfold fstz fstz
    (try dsimp only)
    rw [e1]
    split
    · rfl
    · rename_i h; exact (Classical.not_not.1 h).symm
/-- The code of what has to be, and of a state. -/
noncomputable def sc5 (Q R : Prop) : Int := if tb Q = true then if tb R = true then 0 else 5 else 1
theorem sc5_1 {Q R : Prop} (h : ¬Q) : sc5 Q R = 1 := by unfold sc5; rw [tb_false h]; rfl
theorem sc5_5 {Q R : Prop} (h : Q) (h2 : ¬R) : sc5 Q R = 5 := by unfold sc5; rw [tb_true h, tb_false h2]; rfl
theorem sc5_0 {Q R : Prop} (h : Q) (h2 : R) : sc5 Q R = 0 := by unfold sc5; rw [tb_true h, tb_true h2]; rfl
theorem sc5_zero {Q R : Prop} : sc5 Q R = 0 ↔ Q ∧ R := by
  by_cases q : Q
  · by_cases r : R
    · rw [sc5_0 q r]; exact ⟨fun _ => ⟨q, r⟩, fun _ => rfl⟩
    · rw [sc5_5 q r]; exact ⟨fun h => absurd h (by decide), fun h => absurd h.2 r⟩
  · rw [sc5_1 q]; exact ⟨fun h => absurd h (by decide), fun h => absurd h.1 q⟩
/-- The sum of the numbers of a matrix times S(e(k)) e(j), up to the number t. -/
def drf (p : Int) (m s r : Nat → Int) (n t : Nat) : Nat → Int := fun q => sm (fun t => r t * pr p m (fun y => s (8 * (t % 8) + y)) (bas (t / 8)) n q) t % p
theorem drf_zero (p : Int) (m s r : Nat → Int) (n : Nat) : drf p m s r n 0 = fun _ => 0 := by funext q; simp [drf, sm]
theorem drf_res {p : Int} (hp : 2 ≤ p) (m s r : Nat → Int) (n t N : Nat) : isRes p N (drf p m s r n t) := fun _ _ => modB _ hp
theorem drf_skip {p : Int} {m s r : Nat → Int} {n t : Nat} (h : r t = 0) : drf p m s r n (t + 1) = drf p m s r n t := by funext q; unfold drf; rw [sm, h, Int.zero_mul, Int.add_zero]
theorem drf_step (p : Int) (m s r : Nat → Int) (n t : Nat) : pl p (drf p m s r n t) (r t) (pr p m (fun y => s (8 * (t % 8) + y)) (bas (t / 8)) n) = drf p m s r n (t + 1) := by
  funext q; unfold pl drf; rw [modAddL, sm.eq_2 _ t]
theorem drf_more {p : Int} {m s r : Nat → Int} {n t t' : Nat} (h : t ≤ t') (hz : ∀ u, t ≤ u → u < t' → r u = 0) : drf p m s r n t' = drf p m s r n t := by
  funext q; unfold drf; rw [sm_more h (fun u h1 h2 => by rw [hz u h1 h2, Int.zero_mul])]
theorem lz.flat {n : Nat} {l : Nat → Int} (h : lz n l) {q : Nat} (hq : q < 64) (hn : n ≤ q / 8 ∨ n ≤ q % 8) : l q = 0 := by
  have := h (q / 8) (q % 8) (by omega) (by omega) hn
  rwa [show 8 * (q / 8) + q % 8 = q by omega] at this
/-- S(S(e(i))) times u is u times e(i). -/
def sqE (h : HT) (u : Nat → Int) (a i : Nat) : Prop := ∀ q, q < 8 → pr h.p h.m (app h.p h.s (fun y => h.s (8 * i + y))) u a q = pr h.p h.m u (bas i) a q
end Go.V
