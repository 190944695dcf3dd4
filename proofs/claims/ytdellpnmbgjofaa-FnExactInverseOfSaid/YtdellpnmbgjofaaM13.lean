/- Inverses of vectors by a system of equations: the plain law. -/
import Derived.Test.YtdellpnmbgjofaaM12
namespace Go.V
set_option linter.unusedVariables false
/-- The equations that say that v times z is the unit. -/
def irow (p : Int) (u m v : Nat → Int) (a : Nat) : Nat → Nat → Int := fun k x => if x < a then pr p m v (bas x) a k % p else u k % p
theorem irow_res {p : Int} (hp : 2 ≤ p) (u m v : Nat → Int) (a k x : Nat) : 0 ≤ irow p u m v a k x ∧ irow p u m v a k x < p := by
  unfold irow; split <;> exact modB _ hp
theorem irow_sat {p : Int} {u m v z : Nat → Int} {a : Nat} (ha : a ≤ 8) (hru : isRes p 8 u) : sat p (irow p u m v a) a a z ↔ ∀ k, k < a → pr p m v z a k = u k := by
  have key : ∀ k, k < a → (rsd a (irow p u m v a k) z % p = 0 ↔ pr p m v z a k = u k) := fun k hk => by
    have hu := hru k (by omega)
    unfold rsd
    rw [sm_congr (g := fun j => z j * pr p m v (bas j) a k) (fun c hc => by unfold irow; rw [if_pos hc, pr_idem, Int.mul_comm])]
    have e1 : irow p u m v a k a = u k := by unfold irow; rw [if_neg (by omega), modSelf hu]
    rw [e1, ← Int.emod_eq_emod_iff_emod_sub_eq_zero, modSelf hu, pr_linr]
  exact ⟨fun h k hk => (key k hk).1 (h k hk), fun h k hk => (key k hk).2 (h k hk)⟩
theorem pr_out {p : Int} {m : Nat → Int} {a : Nat} (ha : a ≤ 8) (hm : isTab p a m) (x y : Nat → Int) {q : Nat} (hq : q < 8) (h : a ≤ q) : pr p m x y a q = 0 := by
  rw [pr_eq, sm_zero (fun i hi => sm_zero (fun j hj => by
    have := (((hm i (by omega)).1 j (by omega)).1 q hq).2 (by omega)
    (try dsimp only at this)
    rw [show 64 * i + 8 * j + q = 64 * i + (8 * j + q) by omega, this, Int.mul_zero])), Int.zero_emod]
theorem sol_res {p : Int} (hp : 2 ≤ p) {R : Nat → Nat → Int} {n : Nat} {pl : Nat → Nat} : ∀ {d : Nat}, (∀ k, k < d → 0 ≤ R k n ∧ R k n < p) → ∀ x, 0 ≤ sol R n pl d x ∧ sol R n pl d x < p
  | 0, _, x => ⟨Int.le_refl _, by show (0 : Int) < p; omega⟩
  | d + 1, h, x => by
    unfold sol
    split
    · exact h d (by omega)
    · exact sol_res hp (fun k hk => h k (by omega)) x
structure solW (p : Int) (u m v : Nat → Int) (a : Nat) (R : Nat → Nat → Int) (pl : Nat → Nat) (d : Nat) (o : Nat → Int) : Prop where
  hp : isP p = true
  ha : a ≤ 8
  hu : units p a u m
  has : assoc p a m
  ru : isRes p 8 u
  uz : ∀ q, q < 8 → a ≤ q → u q = 0
  mt : isTab p a m
  rf : RF p R a a pl d a
  eqv : ∀ z, sat p R a a z ↔ sat p (irow p u m v a) a a z
  yes : (∀ j, d ≤ j → j < a → R j a = 0) → o = sol R a pl d
  no : ¬(∀ j, d ≤ j → j < a → R j a = 0) → o = fun _ => 0
theorem solW.res {p : Int} {u m v : Nat → Int} {a : Nat} {R : Nat → Nat → Int} {pl : Nat → Nat} {d : Nat} {o : Nat → Int} (h : solW p u m v a R pl d o) : isRes p 8 o ∧ ∀ x, x < 8 → a ≤ x → o x = 0 := by
  have hb := isP_le h.hp
  by_cases q : ∀ j, d ≤ j → j < a → R j a = 0
  · rw [h.yes q]
    refine ⟨fun x _ => sol_res hb.1 (fun k hk => h.rf.res k a (by have := h.rf.dm; omega) (Nat.le_refl _)) x, fun x _ hx => sol_else (fun k hk => by have := h.rf.pc k hk; omega)⟩
  · rw [h.no q]
    exact ⟨fun x _ => ⟨Int.le_refl _, by (try dsimp only); omega⟩, fun x _ _ => rfl⟩
theorem solW.is {p : Int} {u m v : Nat → Int} {a : Nat} {R : Nat → Nat → Int} {pl : Nat → Nat} {d : Nat} {o : Nat → Int} (h : solW p u m v a R pl d o) (h1 : ∀ q, q < 8 → pr p m v o a q = u q) (h2 : ∀ q, q < 8 → pr p m o v a q = u q) : isIv p u m v a o :=
  ⟨h.res.1, h.res.2, h1, h2⟩
theorem solW.all {p : Int} {u m v w : Nat → Int} {a : Nat} {R : Nat → Nat → Int} {pl : Nat → Nat} {d : Nat} {o : Nat → Int} (h : solW p u m v a R pl d o) (hw : isIv p u m v a w) : ∀ q, q < 8 → o q = w q := by
  have hs : sat p R a a w := (h.eqv w).2 ((irow_sat h.ha h.ru).2 fun k hk => hw.vw k (by have := h.ha; omega))
  have h0 : ∀ j, d ≤ j → j < a → R j a = 0 := fun j h1 h2 => h.rf.solv hs h1 h2
  have hr := h.res
  have ho := h.yes h0
  have h1 := (irow_sat h.ha h.ru).1 ((h.eqv o).1 (by rw [ho]; exact sol_sat h.rf h0))
  intro q hq
  refine hw.right h.ha h.hu h.has hr.1 hr.2 (fun q hq => ?_) hq
  by_cases e : q < a
  · exact h1 q e
  · rw [pr_out h.ha h.mt _ _ hq (by omega), h.uz q hq (by omega)]
end Go.V
