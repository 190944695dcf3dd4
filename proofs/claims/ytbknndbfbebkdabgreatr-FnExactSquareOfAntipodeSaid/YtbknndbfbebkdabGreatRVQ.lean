/- Two new blocks, made in either order. -/
import Derived.Test.YtbknndbfbebkdabGreatRVP
namespace Go.V
set_option linter.unusedVariables false
section
variable {P : Program} {N m : Nat} {e : Env} {H : Hp} {n : Nat} {Q : Ex → Env → Hp → Nat → Prop} {c : Cd}
theorem Drops.swap {b1 b2 : Nat} {k1 k2 : Blk} (hb : b1 ≠ b2) : Drops m ((b2, k2) :: (b1, k1) :: H) ((b1, k1) :: (b2, k2) :: H) := by
  intro b
  by_cases e1 : b1 = b
  · subst e1; rw [Hp.get_ne _ _ (fun h => hb h.symm), Hp.get_eq, Hp.get_eq]; exact .inr ⟨_, _, rfl, rfl, rfl, rfl, fun _ _ => rfl⟩
  · by_cases e2 : b2 = b
    · subst e2; rw [Hp.get_eq, Hp.get_ne _ _ e1, Hp.get_eq]; exact .inr ⟨_, _, rfl, rfl, rfl, rfl, fun _ _ => rfl⟩
    · rw [Hp.get_ne _ _ e2, Hp.get_ne _ _ e1, Hp.get_ne _ _ e1, Hp.get_ne _ _ e2]
      exact Drops.refl m H b
theorem MTW.two {F : Hp} {ll : List Ins} {i1 i2 i3 i4 d1 d2 s1 s2 k1 k2 : Nat} {t1 t2 : TypeId} {z1 z2 : Zs} {c1 c2 : Nat → SV} (E : Nat → Nat → Env)
    (h1 : pick [i1, i2, i3, i4] ll = [⟨some d1, none, .new t1 z1⟩, ⟨some d2, none, .new t2 z2⟩, ⟨none, none, .st k1 (.t d1) (.t s1)⟩, ⟨none, none, .st k2 (.t d2) (.t s2)⟩])
    (h2 : pick [i2, i1, i3, i4] ll = [⟨some d2, none, .new t2 z2⟩, ⟨some d1, none, .new t1 z1⟩, ⟨none, none, .st k1 (.t d1) (.t s1)⟩, ⟨none, none, .st k2 (.t d2) (.t s2)⟩])
    (hx1 : e.get s1 = some (.arr k1 c1)) (hx2 : e.get s2 = some (.arr k2 c2)) (hd : d1 ≠ d2) (hs : s1 ≠ d1 ∧ s1 ≠ d2 ∧ s2 ≠ d1 ∧ s2 ≠ d2) (hz1 : z1.size = k1) (hz2 : z2.size = k2)
    (hE1 : ∀ b1 b2, EnvLe (E b1 b2) (putD (some d2) (ptr b2 0) (putD (some d1) (ptr b1 0) e))) (hE2 : ∀ b1 b2, EnvLe (E b1 b2) (putD (some d1) (ptr b1 0) (putD (some d2) (ptr b2 0) e)))
    (h : ∀ b1 b2 n', n ≤ b1 → n ≤ b2 → b1 ≠ b2 → H.get b1 = none → H.get b2 = none → b1 < n' → b2 < n' → n ≤ n' → CS P N m c (E b1 b2) ((b1, ⟨k1, c1, t1⟩) :: (b2, ⟨k2, c2, t2⟩) :: H) n' Q) :
    MTW P N m F n ll (.fork (.seg i1 (.seg i2 (.seg i3 (.seg i4 .done)))) (.seg i2 (.seg i1 (.seg i3 (.seg i4 .done))))) e H
      fun e3 H3 => ∀ n', n ≤ n' → (∀ b k, H3.get b = some k → b < n') → Ex.then (fun e' H' n' => CS P N m c e' H' n' Q) Q .normal e3 H3 n' := by
  obtain ⟨q1, q2, q3, q4⟩ := hs
  have go : ∀ {E' : Env} {H3 : Hp} (b1 b2 : Nat), n ≤ b1 → n ≤ b2 → b1 ≠ b2 → H.get b1 = none → H.get b2 = none → EnvLe (E b1 b2) E' → Drops m H3 ((b1, ⟨k1, c1, t1⟩) :: (b2, ⟨k2, c2, t2⟩) :: H) → (∃ k, H3.get b1 = some k) → (∃ k, H3.get b2 = some k) →
      ∀ n', n ≤ n' → (∀ b k, H3.get b = some k → b < n') → CS P N m c E' H3 n' Q := by
    intro E' H3 b1 b2 a1 a2 a3 a4 a5 a6 a7 a8 a9 n' hn hl
    obtain ⟨x1, a8⟩ := a8
    obtain ⟨x2, a9⟩ := a9
    exact CS.weak a6 a7 (h b1 b2 n' a1 a2 a3 a4 a5 (hl _ _ a8) (hl _ _ a9) hn)
  refine MTW.fork (MTW.seg ?_) (MTW.seg ?_)
  · rw [show OT.os (.seg i1 (.seg i2 (.seg i3 (.seg i4 .done)))) = [i1, i2, i3, i4] from rfl, h1]
    refine MS.new fun b1 hb1 f1 => MS.new fun b2 hb2 f2 => ?_
    have hne : b1 ≠ b2 := by intro q; subst q; rw [Hp.get_eq] at f2; cases f2
    rw [Hp.get_ne _ _ hne] at f2
    refine MS.stx (b := b1) (off := 0) (k := ⟨z1.size, z1.c, t1⟩) (c := c1) (c' := c1) ?_ ?_ (by rw [Hp.get_ne _ _ (fun q => hne q.symm), Hp.get_eq]) (by dsimp only; omega) hb1 (fun i hi => by dsimp only at hi; unfold splice; rw [if_pos (by omega)]; simp) ?_
    · show Env.get ((d2, ptr b2 0) :: (d1, ptr b1 0) :: e) d1 = _
      rw [Env.get_cons, if_neg (fun q => hd q.symm), Env.get_cons, if_pos rfl]
    · show Env.get ((d2, ptr b2 0) :: (d1, ptr b1 0) :: e) s1 = _
      rw [Env.get_cons, if_neg (fun q => q2 q.symm), Env.get_cons, if_neg (fun q => q1 q.symm), hx1]
    refine MS.stx (b := b2) (off := 0) (k := ⟨z2.size, z2.c, t2⟩) (c := c2) (c' := c2) ?_ ?_ (by rw [Hp.get_set_other _ hne, Hp.get_eq]) (by dsimp only; omega) hb2 (fun i hi => by dsimp only at hi; unfold splice; rw [if_pos (by omega)]; simp) ?_
    · show Env.get ((d2, ptr b2 0) :: (d1, ptr b1 0) :: e) d2 = _
      rw [Env.get_cons, if_pos rfl]
    · show Env.get ((d2, ptr b2 0) :: (d1, ptr b1 0) :: e) s2 = _
      rw [Env.get_cons, if_neg (fun q => q4 q.symm), Env.get_cons, if_neg (fun q => q3 q.symm), hx2]
    rw [Hp.set_ne _ _ _ (fun q => hne q.symm), Hp.set_eq, Hp.set_eq]
    subst hz1 hz2
    refine MS.nil (MTW.done ?_)
    exact go b1 b2 hb1 hb2 hne f1 f2 (hE1 b1 b2) (Drops.swap hne) ⟨_, by rw [Hp.get_ne _ _ (fun q => hne q.symm), Hp.get_eq]⟩ ⟨_, Hp.get_eq _ _ _⟩
  · rw [show OT.os (.seg i2 (.seg i1 (.seg i3 (.seg i4 .done)))) = [i2, i1, i3, i4] from rfl, h2]
    refine MS.new fun b2 hb2 f2 => MS.new fun b1 hb1 f1 => ?_
    have hne : b1 ≠ b2 := by intro q; subst q; rw [Hp.get_eq] at f1; cases f1
    rw [Hp.get_ne _ _ (fun q => hne q.symm)] at f1
    refine MS.stx (b := b1) (off := 0) (k := ⟨z1.size, z1.c, t1⟩) (c := c1) (c' := c1) ?_ ?_ (Hp.get_eq _ _ _) (by dsimp only; omega) hb1 (fun i hi => by dsimp only at hi; unfold splice; rw [if_pos (by omega)]; simp) ?_
    · show Env.get ((d1, ptr b1 0) :: (d2, ptr b2 0) :: e) d1 = _
      rw [Env.get_cons, if_pos rfl]
    · show Env.get ((d1, ptr b1 0) :: (d2, ptr b2 0) :: e) s1 = _
      rw [Env.get_cons, if_neg (fun q => q1 q.symm), Env.get_cons, if_neg (fun q => q2 q.symm), hx1]
    refine MS.stx (b := b2) (off := 0) (k := ⟨z2.size, z2.c, t2⟩) (c := c2) (c' := c2) ?_ ?_ (by rw [Hp.get_set_other _ hne, Hp.get_ne _ _ hne, Hp.get_eq]) (by dsimp only; omega) hb2 (fun i hi => by dsimp only at hi; unfold splice; rw [if_pos (by omega)]; simp) ?_
    · show Env.get ((d1, ptr b1 0) :: (d2, ptr b2 0) :: e) d2 = _
      rw [Env.get_cons, if_neg hd, Env.get_cons, if_pos rfl]
    · show Env.get ((d1, ptr b1 0) :: (d2, ptr b2 0) :: e) s2 = _
      rw [Env.get_cons, if_neg (fun q => q3 q.symm), Env.get_cons, if_neg (fun q => q4 q.symm), hx2]
    rw [Hp.set_eq, Hp.set_ne _ _ _ hne, Hp.set_eq]
    subst hz1 hz2
    refine MS.nil (MTW.done ?_)
    exact go b1 b2 hb1 hb2 hne f1 f2 (hE2 b1 b2) (Drops.refl _ _) ⟨_, Hp.get_eq _ _ _⟩ ⟨_, by rw [Hp.get_ne _ _ hne, Hp.get_eq]⟩
end
end Go.V
