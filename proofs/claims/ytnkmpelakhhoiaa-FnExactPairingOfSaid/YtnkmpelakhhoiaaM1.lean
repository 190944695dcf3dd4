/- Inverses and orders modulo a prime. -/
import Derived.Test.YtnkmpelakhhoiaaC0
namespace Go.V
set_option linter.unusedSimpArgs false
set_option linter.unusedVariables false

theorem inv_any : ∀ p : Nat, p < 32 → isP (p : Int) = true → ∀ r : Nat, r < p → r ≠ 0 → (List.range p).any (fun k => k * r % p == 1) = true := by decide +kernel

theorem inv_ex {p x : Int} (hp : isP p = true) (hx : x % p ≠ 0) : ∃ k : Int, 1 ≤ k ∧ k < p ∧ k * x % p = 1 := by
  have hb := isP_le hp
  obtain ⟨q, rfl⟩ : ∃ q : Nat, p = q := ⟨p.toNat, by omega⟩
  have h1 := Int.emod_nonneg x (show (q : Int) ≠ 0 by omega)
  have h2 := Int.emod_lt_of_pos x (show (0 : Int) < q by omega)
  obtain ⟨r, hr⟩ : ∃ r : Nat, x % q = r := ⟨(x % q).toNat, by omega⟩
  have h := inv_any q (by omega) hp r (by omega) (by omega)
  simp only [List.any_eq_true, List.mem_range, beq_iff_eq] at h
  obtain ⟨k, hk, he⟩ := h
  refine ⟨k, ?_, by omega, ?_⟩
  · rcases Nat.eq_zero_or_pos k with h0 | h0
    · subst h0; simp at he
    · omega
  · rw [← emodR, hr]
    exact_mod_cast he

theorem inv_uniq {p x k k' : Int} (h1 : 0 ≤ k ∧ k < p) (h2 : 0 ≤ k' ∧ k' < p) (h : k * x % p = 1) (h' : k' * x % p = 1) : k = k' := by
  have e1 : k * (k' * x) % p = k := by rw [← emodR, h', Int.mul_one]; exact Int.emod_eq_of_lt h1.1 h1.2
  have e2 : k' * (k * x) % p = k' := by rw [← emodR, h, Int.mul_one]; exact Int.emod_eq_of_lt h2.1 h2.2
  have e3 : k * (k' * x) = k' * (k * x) := by rw [← Int.mul_assoc, Int.mul_comm k k', Int.mul_assoc]
  exact e1.symm.trans ((congrArg (· % p) e3).trans e2)

/-- The inverse of x modulo p. -/
noncomputable def theOne (Q : Int → Prop) : Int := open Classical in if h : ∃ k : Int, Q k then h.choose else 0
noncomputable def inv (p x : Int) : Int := theOne fun k => 1 ≤ k ∧ k < p ∧ k * x % p = 1

theorem inv_spec {p x : Int} (hp : isP p = true) (hx : x % p ≠ 0) : 1 ≤ inv p x ∧ inv p x < p ∧ inv p x * x % p = 1 := by
  have h := inv_ex hp hx
  unfold inv theOne
  rw [dif_pos h]
  exact h.choose_spec

theorem inv_eq {p x k : Int} (hp : isP p = true) (h1 : 1 ≤ k) (h2 : k < p) (h : k * x % p = 1) : inv p x = k := by
  have hx : x % p ≠ 0 := by
    intro h0
    rw [← emodR, h0] at h
    simp at h
  have hs := inv_spec hp hx
  exact inv_uniq ⟨by omega, hs.2.1⟩ ⟨by omega, h2⟩ hs.2.2 h

theorem inv_mod (p x : Int) : inv p (x % p) = inv p x := by
  unfold inv
  congr 1
  funext k
  rw [emodR]

/-! ### Orders -/
def isOrd (p w : Int) (k : Nat) : Prop := 1 ≤ k ∧ pw p w k = 1 ∧ ∀ j, 1 ≤ j → j < k → pw p w j ≠ 1

theorem isOrd_uniq {p w : Int} {k k' : Nat} (h : isOrd p w k) (h' : isOrd p w k') : k = k' := by
  rcases Nat.lt_trichotomy k k' with hh | hh | hh
  · exact absurd h.2.1 (h'.2.2 k h.1 hh)
  · exact hh
  · exact absurd h'.2.1 (h.2.2 k' h'.1 hh)

theorem pw_fermat : ∀ p : Nat, p < 32 → isP (p : Int) = true → ∀ w : Nat, w < p → w ≠ 0 → pw (p : Int) (w : Int) (p - 1) = 1 := by decide +kernel

theorem pw_one {p w : Int} (hp : isP p = true) (hw : 1 ≤ w ∧ w < p) : pw p w (p.toNat - 1) = 1 := by
  have hb := isP_le hp
  obtain ⟨q, rfl⟩ : ∃ q : Nat, p = q := ⟨p.toNat, by omega⟩
  obtain ⟨r, rfl⟩ : ∃ r : Nat, w = r := ⟨w.toNat, by omega⟩
  exact pw_fermat q (by omega) hp r (by omega) (by omega)

theorem ord_ex {p w : Int} (hp : isP p = true) (hw : 1 ≤ w ∧ w < p) : ∃ k : Nat, isOrd p w k ∧ (k : Int) < p := by
  have hb := isP_le hp
  have key : ∀ N : Nat, 1 ≤ N → pw p w N = 1 → ∃ k, k ≤ N ∧ isOrd p w k := by
    intro N
    induction N using Nat.strongRecOn with
    | _ N ih =>
      intro h1 h2
      by_cases h : ∃ j, 1 ≤ j ∧ j < N ∧ pw p w j = 1
      · obtain ⟨j, h3, h4, h5⟩ := h
        obtain ⟨k, hk, ho⟩ := ih j h4 h3 h5
        exact ⟨k, by omega, ho⟩
      · exact ⟨N, Nat.le_refl _, h1, h2, fun j h3 h4 h5 => h ⟨j, h3, h4, h5⟩⟩
  obtain ⟨k, hk, ho⟩ := key (p.toNat - 1) (by omega) (pw_one hp hw)
  exact ⟨k, ho, by omega⟩

/-- share times the powers of back. -/
theorem mul_pw_step (p a b : Int) (k : Nat) : (a * pw p b k % p) * b % p = a * pw p b (k + 1) % p := by
  rw [emodL, pw, emodR, Int.mul_assoc]

theorem tmod_facts (x p : Int) (hp : 2 ≤ p) : (x % p = 0 → x.tmod p = 0) ∧ (x % p ≠ 0 → 0 ≤ x → x.tmod p = x % p) ∧ (x % p ≠ 0 → x < 0 → x.tmod p = x % p - p) := by
  rw [Int.tmod_eq_emod]
  refine ⟨fun h => ?_, fun h h0 => ?_, fun h h0 => ?_⟩
  · rw [if_pos (.inr (Int.dvd_of_emod_eq_zero h))]; omega
  · rw [if_pos (.inl h0)]; omega
  · rw [if_neg (by intro hh; rcases hh with hh | hh; omega; exact h (Int.emod_eq_zero_of_dvd hh))]; omega
end Go.V
