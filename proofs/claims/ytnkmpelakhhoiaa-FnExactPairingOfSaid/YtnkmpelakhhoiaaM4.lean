/- Coproducts, products of tables, and the axioms of Hopf algebras, without a program in sight. -/
import Derived.Test.YtnkmpelakhhoiaaC11
namespace Go.V
set_option linter.unusedSimpArgs false
set_option linter.unusedVariables false

theorem sm_0 (f : Nat → Int) : sm f 0 = 0 := rfl
theorem sm_append (f : Nat → Int) (a : Nat) : ∀ b : Nat, sm f (a + b) = sm f a + sm (fun i => f (a + i)) b
  | 0 => by simp [sm]
  | b + 1 => by rw [← Nat.add_assoc, sm, sm, sm_append f a b, Int.add_assoc]

theorem sm_flat (f : Nat → Int) (k : Nat) : ∀ n : Nat, sm f (k * n) = sm (fun i => sm (fun j => f (k * i + j)) k) n
  | 0 => by simp [sm]
  | n + 1 => by rw [Nat.mul_add, Nat.mul_one, sm_append, sm_flat f k n, sm]

/-- A function of two places as one of 64. -/
theorem sm_flat8 (F : Nat → Nat → Int) : sm (fun t => F (t / 8) (t % 8)) 64 = sm (fun j => sm (fun k => F j k) 8) 8 := by
  rw [show (64 : Nat) = 8 * 8 by rfl, sm_flat]
  refine sm_congr fun i hi => sm_congr fun j hj => ?_
  rw [show (8 * i + j) / 8 = i by omega, show (8 * i + j) % 8 = j by omega]

/-- The first x rows of B, the other ones of A. -/
def rowsTo (A B : Nat → Int) (x : Nat) : Nat → Int := fun q => if q < 8 * x then B q else A q
theorem rowsTo_zero (A B : Nat → Int) : rowsTo A B 0 = A := by funext q; simp [rowsTo]
theorem rowsTo_all {A B : Nat → Int} {n N : Nat} (h : ∀ q, 8 * n ≤ q → q < N → A q = B q) {q : Nat} (hq : q < N) : rowsTo A B n q = B q := by
  unfold rowsTo; split
  · rfl
  · exact h q (by omega) hq
theorem rowsTo_step {A B : Nat → Int} {x : Nat} {r : Nat → Int} (h : ∀ y, y < 8 → r y = B (8 * x + y)) (q : Nat) : splice (bys (rowsTo A B x)) (8 * x) 8 (bys r) q = bys (rowsTo A B (x + 1)) q := by
  unfold splice bys rowsTo
  by_cases h1 : 8 * x ≤ q ∧ q < 8 * x + 8
  · rw [if_pos h1, if_pos (by omega), h (q - 8 * x) (by omega), show 8 * x + (q - 8 * x) = q by omega]
  · rw [if_neg h1]
    by_cases h2 : q < 8 * x
    · rw [if_pos h2, if_pos (by omega)]
    · rw [if_neg h2, if_neg (by omega)]
theorem rowsTo_res {p : Int} {N : Nat} {A B : Nat → Int} (ha : isRes p N A) (hb : isRes p N B) (x : Nat) : isRes p N (rowsTo A B x) := fun i hi => by
  unfold rowsTo; split
  · exact hb i hi
  · exact ha i hi

/-- The entries of a table outside its size are 0. -/
def tz (n : Nat) (m : Nat → Int) : Prop := ∀ i j x : Nat, i < 8 → j < 8 → x < 8 → (n ≤ i ∨ n ≤ j ∨ n ≤ x) → m (64 * i + 8 * j + x) = 0
def lz (n : Nat) (l : Nat → Int) : Prop := ∀ i x : Nat, i < 8 → x < 8 → (n ≤ i ∨ n ≤ x) → l (8 * i + x) = 0
def vz (n : Nat) (v : Nat → Int) : Prop := ∀ x : Nat, x < 8 → n ≤ x → v x = 0
theorem isVec.vz {p : Int} {n : Nat} {v : Nat → Int} (h : isVec p n v) : vz n v := fun x hx hn => (h x hx).2 (by omega)
theorem isLin.lz {p : Int} {n : Nat} {l : Nat → Int} (h : isLin p n n l) : lz n l := fun i x hi hx hn => by
  by_cases e : n ≤ i
  · exact (h i hi).2 (by omega) x hx
  · exact ((h i hi).1 x hx).2 (by omega)
theorem isTab.tz {p : Int} {n : Nat} {t : Nat → Int} (h : isTab p n t) : tz n t := fun i j x hi hj hx hn => by
  rw [Nat.add_assoc]
  by_cases e : n ≤ i
  · exact (h i hi).2 (by omega) (8 * j + x) (by omega)
  · exact (h i hi).1.lz j x hj hx (by omega)
theorem tz.row {n : Nat} {m : Nat → Int} (h : tz n m) {i : Nat} (hi : i < 8) : lz n (fun q => m (64 * i + q)) := fun j x hj hx hn => by
  have := h i j x hi hj hx (by omega)
  rwa [Nat.add_assoc] at this
theorem tz.rowv {n : Nat} {m : Nat → Int} (h : tz n m) {i j : Nat} (hi : i < 8) (hj : j < 8) : vz n (fun q => m (64 * i + 8 * j + q)) := fun x hx hn => h i j x hi hj hx (by omega)
theorem lz.row {n : Nat} {l : Nat → Int} (h : lz n l) {i : Nat} (hi : i < 8) : vz n (fun q => l (8 * i + q)) := fun x hx hn => h i x hi hx (by omega)
theorem lz.at {n : Nat} {l : Nat → Int} (h : lz n l) {q : Nat} (hq : q < 64) (hn : 8 * n ≤ q) : l q = 0 := by
  have := h (q / 8) (q % 8) (by omega) (by omega) (by omega)
  rwa [show 8 * (q / 8) + q % 8 = q by omega] at this
theorem tz.at {n : Nat} {m : Nat → Int} (h : tz n m) {i q : Nat} (hi : i < 8) (hq : q < 64) (hn : n ≤ i ∨ 8 * n ≤ q) : m (64 * i + q) = 0 := by
  have := h i (q / 8) (q % 8) hi (by omega) (by omega) (by omega)
  rwa [show 64 * i + 8 * (q / 8) + q % 8 = 64 * i + q by omega] at this

/-! ### Coproducts -/
/-- The coproduct of the first i entries. -/
def cps (p : Int) (c v : Nat → Int) (i : Nat) : Nat → Int := fun q => sm (fun i => v i * c (64 * i + q)) i % p
theorem cps_zero (p : Int) (c v : Nat → Int) : cps p c v 0 = fun _ => 0 := by funext q; simp [cps, sm]
theorem cps_res {p : Int} (hp : 2 ≤ p) (c v : Nat → Int) (i N : Nat) : isRes p N (cps p c v i) := fun _ _ => modB _ hp
theorem cps_same {p : Int} {c v : Nat → Int} {i : Nat} (h : v i = 0) : cps p c v (i + 1) = cps p c v i := by
  funext q; unfold cps; rw [sm, h, Int.zero_mul, Int.add_zero]
theorem cps_row (p : Int) (c v : Nat → Int) (i j y : Nat) : pl p (fun y => cps p c v i (8 * j + y)) (v i) (fun y => c (64 * i + 8 * j + y)) y = cps p c v (i + 1) (8 * j + y) := by
  unfold pl cps; rw [modAddL, sm]; simp only [Nat.add_assoc]
theorem cps_out {p : Int} {c v : Nat → Int} {n i : Nat} (hc : tz n c) (hi : i < 8) {q : Nat} (hn : 8 * n ≤ q) (hq : q < 64) : cps p c v i q = cps p c v (i + 1) q := by
  unfold cps; rw [sm, hc.at hi hq (.inr hn), Int.mul_zero, Int.add_zero]
theorem cps_end {p : Int} {c v : Nat → Int} {n : Nat} (hc : tz n c) (hn : n ≤ 8) {q : Nat} (hq : q < 64) : cps p c v n q = cps p c v 8 q := by
  unfold cps; rw [sm_more hn (fun i h1 h2 => by rw [hc.at h2 hq (.inl h1), Int.mul_zero])]

/-! ### Products of tables -/
/-- What the entry t of a and the entry s of b give for the entry q. -/
def tw (m : Nat → Int) (t s q : Nat) : Int := m (64 * (t / 8) + 8 * (s / 8) + q / 8) * m (64 * (t % 8) + 8 * (s % 8) + q % 8)
/-- The product of two tables: of a the entries up to t, of the entry t the entries of b up to s. -/
def tns (p : Int) (m a b : Nat → Int) (t s : Nat) : Nat → Int := fun q => (sm (fun t => a t * sm (fun s => b s * tw m t s q) 64) t + a t * sm (fun s => b s * tw m t s q) s) % p
def ten (p : Int) (m a b : Nat → Int) : Nat → Int := tns p m a b 64 0
theorem tns_zero (p : Int) (m a b : Nat → Int) : tns p m a b 0 0 = fun _ => 0 := by funext q; simp [tns, sm]
theorem tns_next (p : Int) (m a b : Nat → Int) (t : Nat) : tns p m a b t 64 = tns p m a b (t + 1) 0 := by funext q; simp [tns, sm]
theorem tns_skip {p : Int} {m a b : Nat → Int} {t : Nat} (h : a t = 0) : tns p m a b (t + 1) 0 = tns p m a b t 0 := by funext q; simp [tns, sm, h]
theorem tns_same {p : Int} {m a b : Nat → Int} {t s : Nat} (h : b s = 0) : tns p m a b t (s + 1) = tns p m a b t s := by funext q; simp [tns, sm, h]
theorem tns_res {p : Int} (hp : 2 ≤ p) (m a b : Nat → Int) (t s N : Nat) : isRes p N (tns p m a b t s) := fun _ _ => modB _ hp
theorem tns_row (p : Int) (m a b : Nat → Int) (t s i y : Nat) (hy : y < 8) :
    pl p (fun y => tns p m a b t s (8 * i + y)) (a t * b s % p * m (64 * (t / 8) + 8 * (s / 8) + i)) (fun y => m (64 * (t % 8) + 8 * (s % 8) + y)) y = tns p m a b t (s + 1) (8 * i + y) := by
  unfold pl tns
  rw [modAddL, Int.mul_assoc, ← modAddR _ (_ % p * _), Int.mul_emod (_ % p), Int.emod_emod_of_dvd _ (Int.dvd_refl p), ← Int.mul_emod, modAddR]
  congr 1
  rw [sm, Int.mul_add, ← Int.add_assoc]
  congr 1
  simp only [tw, show (8 * i + y) / 8 = i by omega, show (8 * i + y) % 8 = y by omega]
  rw [Int.mul_assoc]

/-- The product of two tables, row by row. -/
def twr (p : Int) (m f g : Nat → Int) (n : Nat) (j l q : Nat) : Int := m (64 * j + 8 * l + q / 8) * pr p m (fun x => f (8 * j + x)) (fun x => g (8 * l + x)) n (q % 8)
def tsr (p : Int) (m f g : Nat → Int) (n : Nat) (j l : Nat) : Nat → Int := fun q => (sm (fun j => sm (fun l => twr p m f g n j l q) n) j + sm (fun l => twr p m f g n j l q) l) % p
theorem tsr_zero (p : Int) (m f g : Nat → Int) (n : Nat) : tsr p m f g n 0 0 = fun _ => 0 := by funext q; simp [tsr, sm]
theorem tsr_next (p : Int) (m f g : Nat → Int) (n j : Nat) : tsr p m f g n j n = tsr p m f g n (j + 1) 0 := by funext q; simp [tsr, sm]
theorem tsr_res {p : Int} (hp : 2 ≤ p) (m f g : Nat → Int) (n j l N : Nat) : isRes p N (tsr p m f g n j l) := fun _ _ => modB _ hp
theorem tsr_same {p : Int} {m f g : Nat → Int} {n j l q : Nat} (h : twr p m f g n j l q = 0) : tsr p m f g n j (l + 1) q = tsr p m f g n j l q := by
  unfold tsr; rw [sm, h, Int.add_zero]
theorem twr_zero {p : Int} {m f g : Nat → Int} {n j l : Nat} (h : ∀ y, y < 8 → pr p m (fun x => f (8 * j + x)) (fun x => g (8 * l + x)) n y = 0) (q : Nat) : twr p m f g n j l q = 0 := by
  unfold twr; rw [h _ (by omega), Int.mul_zero]
theorem tsr_row (p : Int) (m f g : Nat → Int) (n j l x y : Nat) (hy : y < 8) :
    pl p (fun y => tsr p m f g n j l (8 * x + y)) (m (64 * j + 8 * l + x)) (pr p m (fun x => f (8 * j + x)) (fun x => g (8 * l + x)) n) y = tsr p m f g n j (l + 1) (8 * x + y) := by
  unfold pl tsr
  rw [modAddL]
  congr 1
  rw [sm, ← Int.add_assoc]
  congr 1
  simp only [twr, show (8 * x + y) / 8 = x by omega, show (8 * x + y) % 8 = y by omega]
theorem tsr_out {p : Int} {m f g : Nat → Int} {n j l q : Nat} (hm : tz n m) (hj : j < 8) (hl : l < 8) (hn : 8 * n ≤ q) (hq : q < 64) : tsr p m f g n j l q = tsr p m f g n j (l + 1) q := by
  refine (tsr_same ?_).symm
  unfold twr; rw [hm j l (q / 8) hj hl (by omega) (by omega), Int.zero_mul]

theorem sm_mod_mul (k : Int) (f : Nat → Int) (p : Int) (n : Nat) : sm (fun i => k * (f i % p)) n % p = sm (fun i => k * f i) n % p :=
  sm_modc fun i _ => by rw [Int.mul_emod, Int.emod_emod_of_dvd _ (Int.dvd_refl p), ← Int.mul_emod]

theorem tsr_end {p : Int} {m f g : Nat → Int} {n : Nat} (hm : tz n m) (hn : n ≤ 8) {q : Nat} (hq : q < 64) : tsr p m f g n n 0 q = ten p m f g q := by
  have e1 : ∀ j l, j < 8 → l < 8 → twr p m f g n j l q % p
      = (m (64 * j + 8 * l + q / 8) * sm (fun k => sm (fun i => f (8 * j + k) * g (8 * l + i) * m (64 * k + 8 * i + q % 8)) 8) 8) % p := fun j l hj hl => by
    unfold twr pr pk
    rw [Int.mul_emod, Int.emod_emod_of_dvd _ (Int.dvd_refl p), ← Int.mul_emod]
    congr 2
    simp only [sm_0, Int.add_zero]
    rw [← sm_more hn (fun k h1 h2 => ?_)]
    · refine sm_congr fun k hk => ?_
      rw [← sm_more hn (fun i h1 h2 => ?_)]
      rw [hm k i (q % 8) hk h2 (by omega) (by omega), Int.mul_zero]
    · exact sm_zero fun i hi => by rw [hm k i (q % 8) h2 (by omega) (by omega) (by omega), Int.mul_zero]
  unfold tsr ten tns
  simp only [sm_0, Int.mul_zero, Int.add_zero]
  have e2 : sm (fun j => sm (fun l => twr p m f g n j l q) n) n = sm (fun j => sm (fun l => twr p m f g n j l q) 8) 8 := by
    rw [← sm_more hn (fun j h1 h2 => ?_)]
    · refine sm_congr fun j hj => ?_
      rw [← sm_more hn (fun l h1 h2 => ?_)]
      unfold twr; rw [hm j l (q / 8) hj h2 (by omega) (by omega), Int.zero_mul]
    · exact sm_zero fun l hl => by unfold twr; rw [hm j l (q / 8) h2 (by omega) (by omega) (by omega), Int.zero_mul]
  rw [e2]
  have e3 : sm (fun t => f t * sm (fun s => g s * tw m t s q) 64) 64 = sm (fun j => sm (fun k => f (8 * j + k) * sm (fun l => sm (fun i => g (8 * l + i) * (m (64 * j + 8 * l + q / 8) * m (64 * k + 8 * i + q % 8))) 8) 8) 8) 8 := by
    rw [show (64 : Nat) = 8 * 8 by rfl, sm_flat]
    refine sm_congr fun j hj => sm_congr fun k hk => ?_
    rw [sm_flat]
    congr 1
    refine sm_congr fun l hl => sm_congr fun i hi => ?_
    simp only [tw, show (8 * j + k) / 8 = j by omega, show (8 * j + k) % 8 = k by omega, show (8 * l + i) / 8 = l by omega, show (8 * l + i) % 8 = i by omega]
  rw [e3]
  refine sm_modc fun j hj => ?_
  rw [sm_modc (fun l hl => e1 j l hj hl)]
  congr 1
  have e4 : ∀ k, f (8 * j + k) * sm (fun l => sm (fun i => g (8 * l + i) * (m (64 * j + 8 * l + q / 8) * m (64 * k + 8 * i + q % 8))) 8) 8
      = sm (fun l => m (64 * j + 8 * l + q / 8) * sm (fun i => f (8 * j + k) * g (8 * l + i) * m (64 * k + 8 * i + q % 8)) 8) 8 := fun k => by
    rw [sm_mul]
    refine sm_congr fun l hl => ?_
    rw [sm_mul, sm_mul]
    refine sm_congr fun i hi => ?_
    simp only [Int.mul_assoc, Int.mul_left_comm]
  rw [sm_congr (fun k _ => e4 k), sm_swap]
  refine sm_congr fun l hl => ?_
  rw [sm_mul]

/-! ### v (x) w -/
def outer (p : Int) (v w : Nat → Int) : Nat → Int := fun q => v (q / 8) * w (q % 8) % p
theorem outer_row (p : Int) (v w : Nat → Int) (j y : Nat) (hy : y < 8) : pl p (fun _ => 0) (v j) w y = outer p v w (8 * j + y) := by
  unfold pl outer; rw [Int.zero_add, show (8 * j + y) / 8 = j by omega, show (8 * j + y) % 8 = y by omega]
theorem outer_res {p : Int} (hp : 2 ≤ p) (v w : Nat → Int) (N : Nat) : isRes p N (outer p v w) := fun _ _ => modB _ hp

/-! ### Sums of products of entries -/
def dotk (p : Int) (v w : Nat → Int) (k : Nat) : Int := sm (fun i => v i * w i) k % p
theorem dotk_end {p : Int} {v w : Nat → Int} {n : Nat} (hn : n ≤ 8) (h : vz n v ∨ vz n w) : dotk p v w n = dotk p v w 8 := by
  unfold dotk
  rw [sm_more hn (fun i h1 h2 => by
    rcases h with h | h
    · rw [h i h2 h1, Int.zero_mul]
    · rw [h i h2 h1, Int.mul_zero])]
theorem dotk_comm (p : Int) (v w : Nat → Int) (k : Nat) : dotk p v w k = dotk p w v k := by
  unfold dotk; rw [sm_congr fun i _ => Int.mul_comm _ _]

/-! ### Algebras, coalgebras -/
/-- The products with basis elements are associative. -/
def assoc (p : Int) (n : Nat) (m : Nat → Int) : Prop := ∀ i j k : Nat, i < n → j < n → k < n → ∀ q, q < 8 →
  pr p m (fun x => m (64 * i + 8 * j + x)) (bas k) n q = pr p m (bas i) (fun x => m (64 * j + 8 * k + x)) n q
def units (p : Int) (n : Nat) (u m : Nat → Int) : Prop := ∀ i : Nat, i < n → (∀ q, q < 8 → pr p m u (bas i) n q = bas i q) ∧ (∀ q, q < 8 → pr p m (bas i) u n q = bas i q)
def isAlg (p : Int) (n : Int) (u m : Nat → Int) : Prop := shp p n u m ∧ units p n.toNat u m ∧ assoc p n.toNat m

def cosum1 (p : Int) (c : Nat → Int) (i j k l : Nat) (n : Nat) : Int := sm (fun a => c (64 * i + 8 * a + l) * c (64 * a + 8 * j + k)) n % p
def cosum2 (p : Int) (c : Nat → Int) (i j k l : Nat) (n : Nat) : Int := sm (fun a => c (64 * i + 8 * j + a) * c (64 * a + 8 * k + l)) n % p
def coassoc (p : Int) (n : Nat) (c : Nat → Int) : Prop := ∀ t : Nat, t < n * n * n * n →
  cosum1 p c (t / (n * n * n)) (t / (n * n) % n) (t / n % n) (t % n) n = cosum2 p c (t / (n * n * n)) (t / (n * n) % n) (t / n % n) (t % n) n
/-- The sum of e[j] c[i][j] up to k. -/
def coL (p : Int) (e c : Nat → Int) (i k : Nat) : Nat → Int := fun x => sm (fun j => e j * c (64 * i + 8 * j + x)) k % p
def coR (p : Int) (e c : Nat → Int) (i k : Nat) : Nat → Int := fun x => if x < k then dotk p e (fun y => c (64 * i + 8 * x + y)) 8 else 0
theorem coL_zero (p : Int) (e c : Nat → Int) (i : Nat) : coL p e c i 0 = fun _ => 0 := by funext x; simp [coL, sm]
theorem coL_step (p : Int) (e c : Nat → Int) (i k : Nat) : pl p (coL p e c i k) (e k) (fun x => c (64 * i + 8 * k + x)) = coL p e c i (k + 1) := by
  funext x; unfold pl coL; rw [modAddL, sm]
theorem coL_res {p : Int} (hp : 2 ≤ p) (e c : Nat → Int) (i k N : Nat) : isRes p N (coL p e c i k) := fun _ _ => modB _ hp
theorem coR_zero (p : Int) (e c : Nat → Int) (i : Nat) : coR p e c i 0 = fun _ => 0 := by funext x; simp [coR]
theorem coR_step (p : Int) (e c : Nat → Int) (i k x : Nat) : (if x = k then dotk p e (fun y => c (64 * i + 8 * k + y)) 8 else coR p e c i k x) = coR p e c i (k + 1) x := by
  unfold coR
  by_cases h : x = k
  · subst h; rw [if_pos rfl, if_pos (by omega)]
  · rw [if_neg h]
    by_cases h2 : x < k
    · rw [if_pos h2, if_pos (by omega)]
    · rw [if_neg h2, if_neg (by omega)]
def counits (p : Int) (n : Nat) (e c : Nat → Int) : Prop := ∀ i : Nat, i < n → (∀ q, q < 8 → coL p e c i n q = bas i q) ∧ (∀ q, q < 8 → coR p e c i n q = bas i q)
def isCoalg (p : Int) (n : Int) (e c : Nat → Int) : Prop := shp p n e c ∧ counits p n.toNat e c ∧ coassoc p n.toNat c

/-! ### Hopf algebras -/
/-- The sum of the products of the entries of the row i of c up to t with vectors. -/
def fold (p : Int) (c : Nat → Int) (i : Nat) (g : Nat → Nat → Int) (t : Nat) : Nat → Int := fun x => sm (fun t => c (64 * i + t) * g t x) t % p
theorem fold_zero (p : Int) (c : Nat → Int) (i : Nat) (g : Nat → Nat → Int) : fold p c i g 0 = fun _ => 0 := by funext x; simp [fold, sm]
theorem fold_step (p : Int) (c : Nat → Int) (i : Nat) (g : Nat → Nat → Int) (t : Nat) : pl p (fold p c i g t) (c (64 * i + t)) (g t) = fold p c i g (t + 1) := by
  funext x; unfold pl fold; rw [modAddL, sm]
theorem fold_skip {p : Int} {c : Nat → Int} {i : Nat} {g : Nat → Nat → Int} {t : Nat} (h : c (64 * i + t) = 0) : fold p c i g (t + 1) = fold p c i g t := by
  funext x; unfold fold; rw [sm, h, Int.zero_mul, Int.add_zero]
theorem fold_res {p : Int} (hp : 2 ≤ p) (c : Nat → Int) (i : Nat) (g : Nat → Nat → Int) (t N : Nat) : isRes p N (fold p c i g t) := fun _ _ => modB _ hp
theorem fold_more {p : Int} {c : Nat → Int} {i : Nat} {g : Nat → Nat → Int} {t t' : Nat} (h : t ≤ t') (hz : ∀ s, t ≤ s → s < t' → c (64 * i + s) = 0) : fold p c i g t' = fold p c i g t := by
  funext x; unfold fold; rw [sm_more h fun s h1 h2 => by rw [hz s h1 h2, Int.zero_mul]]
theorem fold_row {p : Int} {c : Nat → Int} {i n j : Nat} {g : Nat → Nat → Int} (hc : tz n c) (hi : i < 8) (hn : n ≤ 8) (hj : j < 8) : fold p c i g (8 * j + n) = fold p c i g (8 * (j + 1) + 0) :=
  (fold_more (by omega) fun s h1 h2 => by
    have := hc i (s / 8) (s % 8) hi (by omega) (by omega) (by omega)
    rwa [Nat.add_assoc, show 8 * (s / 8) + s % 8 = s by omega] at this).symm
theorem fold_end {p : Int} {c : Nat → Int} {i n : Nat} {g : Nat → Nat → Int} (hc : tz n c) (hi : i < 8) (hn : n ≤ 8) : fold p c i g (8 * n + 0) = fold p c i g 64 :=
  (fold_more (by omega) fun s h1 h2 => hc.at hi h2 (.inr (by omega))).symm
/-- The vectors of axiom 6, and of axiom 7. -/
def g6 (p : Int) (m s : Nat → Int) (n : Nat) (t : Nat) : Nat → Int := pr p m (fun y => s (8 * (t / 8) + y)) (bas (t % 8)) n
def g7 (p : Int) (m s : Nat → Int) (n : Nat) (t : Nat) : Nat → Int := pr p m (bas (t / 8)) (fun y => s (8 * (t % 8) + y)) n
theorem g6_res {p : Int} (hp : 2 ≤ p) (m s : Nat → Int) (n t N : Nat) : isRes p N (g6 p m s n t) := pr_res hp _ _ _ _ _
theorem g7_res {p : Int} (hp : 2 ≤ p) (m s : Nat → Int) (n t N : Nat) : isRes p N (g7 p m s n t) := pr_res hp _ _ _ _ _

def HT.N (h : HT) : Nat := h.n.toNat
def ax3 (h : HT) : Prop := ∀ i j : Nat, i < h.N → j < h.N → ∀ q, q < 64 →
  cps h.p h.c (fun x => h.m (64 * i + 8 * j + x)) 8 q = ten h.p h.m (fun q => h.c (64 * i + q)) (fun q => h.c (64 * j + q)) q
def ax4 (h : HT) : Prop := ∀ q, q < 64 → cps h.p h.c h.u 8 q = outer h.p h.u h.u q
def ax5 (h : HT) : Prop := (∀ i j : Nat, i < h.N → j < h.N → dotk h.p h.e (fun x => h.m (64 * i + 8 * j + x)) 8 = h.e i * h.e j % h.p) ∧ dotk h.p h.e h.u 8 = 1
def ax6 (h : HT) : Prop := ∀ i : Nat, i < h.N → ∀ q, q < 8 → fold h.p h.c i (g6 h.p h.m h.s h.N) 64 q = pl h.p (fun _ => 0) (h.e i) h.u q
def ax7 (h : HT) : Prop := ∀ i : Nat, i < h.N → ∀ q, q < 8 → fold h.p h.c i (g7 h.p h.m h.s h.N) 64 q = pl h.p (fun _ => 0) (h.e i) h.u q
def ax (h : HT) : Nat → Prop
  | 0 => isAlg h.p h.n h.u h.m
  | 1 => isCoalg h.p h.n h.e h.c
  | 2 => ax3 h
  | 3 => ax4 h
  | 4 => ax5 h
  | 5 => ax6 h
  | _ => ax7 h

/-- One more than the first number from k on, among the next many, for which A does not hold, or 0. -/
noncomputable def firstNot (A : Nat → Prop) (k : Nat) : Nat → Int
  | 0 => 0
  | j + 1 => if tb (A k) = true then firstNot A (k + 1) j else (k : Int) + 1
theorem firstNot_go {A : Nat → Prop} {k j : Nat} (h : A k) : firstNot A k (j + 1) = firstNot A (k + 1) j := by rw [firstNot, if_pos (tb_true h)]
theorem firstNot_end {A : Nat → Prop} {k j : Nat} (h : ¬A k) : firstNot A k (j + 1) = (k : Int) + 1 := by rw [firstNot, tb_false h, if_neg (by simp)]
theorem firstNot_zero {A : Nat → Prop} : ∀ {j k : Nat}, firstNot A k j = 0 ↔ ∀ i, k ≤ i → i < k + j → A i
  | 0, k => ⟨fun _ i h1 h2 => by omega, fun _ => rfl⟩
  | j + 1, k => by
    by_cases h : A k
    · rw [firstNot_go h, firstNot_zero]
      refine ⟨fun hh i h1 h2 => ?_, fun hh i h1 h2 => hh i (by omega) (by omega)⟩
      by_cases e : i = k
      · rw [e]; exact h
      · exact hh i (by omega) (by omega)
    · rw [firstNot_end h]
      exact ⟨fun hh => by omega, fun hh => absurd (hh k (by omega) (by omega)) h⟩
def isHopf (h : HT) : Prop := shH h ∧ firstNot (ax h) 0 7 = 0

end Go.V
