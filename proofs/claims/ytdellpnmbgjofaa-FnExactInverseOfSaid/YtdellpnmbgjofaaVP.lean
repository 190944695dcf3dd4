/- Loops whose memory is not said as a list. -/
import Derived.Test.YtdellpnmbgjofaaVL
namespace Go.V
set_option linter.unusedVariables false
section
variable {P : Program} {N m : Nat} {e : Env} {H : Hp} {n : Nat} {Q : Ex → Env → Hp → Nat → Prop} {c : Cd}
/-- A loop of at most cnt rounds: behind i of them the frame is E i, and J i holds of the memory. -/
theorem CS.iterJ (cnt : Nat) (E : Nat → Env) (J : Nat → Hp → Nat → Prop) (hE : EnvLe (E 0) e) (hJ : J 0 H n)
    (h : ∀ i n' H', i ≤ cnt → n ≤ n' → J i H' n' → CS P N m c (E i) H' n' (Ex.then (fun e' H2 n'' => i < cnt ∧ EnvLe (E (i + 1)) e' ∧ ∃ H1, Drops m H2 H1 ∧ J (i + 1) H1 n'') Q)) :
    CS P N m (.loop c) e H n Q := by
  refine CS.weak hE (Drops.refl _ _) ?_
  refine CS.loop (fun k e H n' => ∃ i, i ≤ cnt ∧ k = cnt - i ∧ e = E i ∧ J i H n') cnt ⟨0, Nat.zero_le _, by omega, rfl, hJ⟩ ?_
  rintro k e H n' hn ⟨i, hi, rfl, rfl, hJi⟩
  refine (h i n' H hi hn hJi).mono fun x e' H' n'' hn' hx => ?_
  cases x with
  | normal =>
    obtain ⟨h1, h2, H1, h3, h4⟩ := hx
    exact ⟨cnt - (i + 1), E (i + 1), H1, by omega, h2, h3, i + 1, by omega, rfl, rfl, h4⟩
  | exit id => exact hx
  | ret => exact hx
/-- Below m nothing has changed, and what is new is forgotten. -/
theorem Drops.low {m : Nat} {H H' : Hp} (hf : ∀ b, m ≤ b → H.get b = none) (h : ∀ b, b < m → H'.get b = H.get b) : Drops m H' H := by
  intro b
  by_cases e : b < m
  · have := h b e
    cases hb : H.get b with
    | none => rw [hb] at this; exact .inl ⟨rfl, .inl this⟩
    | some k => rw [hb] at this; exact .inr ⟨k, k, this, rfl, rfl, rfl, fun _ _ => rfl⟩
  · exact .inl ⟨hf b (by omega), .inr (by omega)⟩
end
end Go.V
