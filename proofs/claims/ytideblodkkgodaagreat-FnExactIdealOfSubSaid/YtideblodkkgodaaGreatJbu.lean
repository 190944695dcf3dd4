/- Three new blocks in any order. -/
import Derived.Test.YtideblodkkgodaaGreatJbm
import Derived.Test.YtideblodkkgodaaGreatJbs
set_option linter.unusedSectionVars false
set_option linter.unusedVariables false
set_option linter.unusedSimpArgs false

namespace Go.V

variable [BW]

set_option linter.unusedSimpArgs false

set_option linter.unusedVariables false

section

variable {P : Program} {N m n : Nat} {e : Env} {H : Hp} {c : Cd} {Q : Ex → Env → Hp → Nat → Prop}

theorem three_tail {F : Hp} {d1 d2 d3 s1 s2 s3 k1 k2 k3 : Nat} {ll : List Ins} {t1 t2 t3 : TypeId} {z1 z2 z3 : Zs} {c1 c2 c3 : Nat → SV} {e3 EE : Env} {Hn : Hp} {b1 b2 b3 : Nat}
    (hx : e3.get d1 = some (ptr b1 0) ∧ e3.get d2 = some (ptr b2 0) ∧ e3.get d3 = some (ptr b3 0)) (hy : e3.get s1 = some (.arr k1 c1) ∧ e3.get s2 = some (.arr k2 c2) ∧ e3.get s3 = some (.arr k3 c3))
    (hz1 : z1.size = k1) (hz2 : z2.size = k2) (hz3 : z3.size = k3) (hg1 : Hn.get b1 = some ⟨z1.size, z1.c, t1⟩) (hg2 : Hn.get b2 = some ⟨z2.size, z2.c, t2⟩) (hg3 : Hn.get b3 = some ⟨z3.size, z3.c, t3⟩) (hg : ∀ x, x ≠ b1 → x ≠ b2 → x ≠ b3 → Hn.get x = H.get x)
    (h12 : b1 ≠ b2) (h13 : b1 ≠ b3) (h23 : b2 ≠ b3) (hn1 : n ≤ b1) (hn2 : n ≤ b2) (hn3 : n ≤ b3) (hE : EnvLe EE e3)
    (h : ∀ n', n ≤ n' → b1 < n' → b2 < n' → b3 < n' → CS P N m c EE ((b1, ⟨k1, c1, t1⟩) :: (b2, ⟨k2, c2, t2⟩) :: (b3, ⟨k3, c3, t3⟩) :: H) n' Q) :
    MS P N m F n [⟨none, none, .st k1 (.t d1) (.t s1)⟩, ⟨none, none, .st k2 (.t d2) (.t s2)⟩, ⟨none, none, .st k3 (.t d3) (.t s3)⟩] e3 Hn
      fun e' H' => MTW P N m F n ll .done e' H' fun e3 H3 => ∀ n', n ≤ n' → (∀ b k, H3.get b = some k → b < n') → Ex.then (fun e' H' n' => CS P N m c e' H' n' Q) Q .normal e3 H3 n' := by
  subst hz1 hz2 hz3
  refine MS.stx (b := b1) (off := 0) (k := ⟨z1.size, z1.c, t1⟩) (c := c1) (c' := c1) hx.1 hy.1 hg1 (by dsimp only; omega) hn1 (fun i hi => by dsimp only at hi; unfold splice; rw [if_pos (by omega)]; simp) ?_
  refine MS.stx (b := b2) (off := 0) (k := ⟨z2.size, z2.c, t2⟩) (c := c2) (c' := c2) hx.2.1 hy.2.1 (by rw [Hp.get_set_other _ h12]; exact hg2) (by dsimp only; omega) hn2 (fun i hi => by dsimp only at hi; unfold splice; rw [if_pos (by omega)]; simp) ?_
  refine MS.stx (b := b3) (off := 0) (k := ⟨z3.size, z3.c, t3⟩) (c := c3) (c' := c3) hx.2.2 hy.2.2 (by rw [Hp.get_set_other _ h23, Hp.get_set_other _ h13]; exact hg3) (by dsimp only; omega) hn3 (fun i hi => by dsimp only at hi; unfold splice; rw [if_pos (by omega)]; simp) ?_
  refine MS.nil (MTW.done ?_)
  intro n' hn' hl
  have f1 : (((Hn.set b1 c1).set b2 c2).set b3 c3).get b1 = some ⟨z1.size, c1, t1⟩ := by rw [Hp.get_set_other _ (fun q => h13 q.symm), Hp.get_set_other _ (fun q => h12 q.symm), Hp.get_set_self _ hg1]
  have f2 : (((Hn.set b1 c1).set b2 c2).set b3 c3).get b2 = some ⟨z2.size, c2, t2⟩ := by rw [Hp.get_set_other _ (fun q => h23 q.symm), Hp.get_set_self _ (k := ⟨z2.size, z2.c, t2⟩) (by rw [Hp.get_set_other _ h12]; exact hg2)]
  have f3 : (((Hn.set b1 c1).set b2 c2).set b3 c3).get b3 = some ⟨z3.size, c3, t3⟩ := by rw [Hp.get_set_self _ (k := ⟨z3.size, z3.c, t3⟩) (by rw [Hp.get_set_other _ h23, Hp.get_set_other _ h13]; exact hg3)]
  refine CS.weak hE ?_ (h n' hn' (hl _ _ f1) (hl _ _ f2) (hl _ _ f3))
  intro b
  by_cases q1 : b = b1
  · subst q1; exact .inr ⟨_, _, f1, Hp.get_eq _ _ _, rfl, rfl, fun _ _ => rfl⟩
  by_cases q2 : b = b2
  · subst q2; exact .inr ⟨_, _, f2, by rw [Hp.get_ne _ _ h12, Hp.get_eq], rfl, rfl, fun _ _ => rfl⟩
  by_cases q3 : b = b3
  · subst q3; exact .inr ⟨_, _, f3, by rw [Hp.get_ne _ _ h13, Hp.get_ne _ _ h23, Hp.get_eq], rfl, rfl, fun _ _ => rfl⟩
  have e1 : (((Hn.set b1 c1).set b2 c2).set b3 c3).get b = H.get b := by rw [Hp.get_set_other _ (fun q => q3 q.symm), Hp.get_set_other _ (fun q => q2 q.symm), Hp.get_set_other _ (fun q => q1 q.symm), hg b q1 q2 q3]
  have e2 : Hp.get ((b1, ⟨z1.size, c1, t1⟩) :: (b2, ⟨z2.size, c2, t2⟩) :: (b3, ⟨z3.size, c3, t3⟩) :: H) b = H.get b := by rw [Hp.get_ne _ _ (fun q => q1 q.symm), Hp.get_ne _ _ (fun q => q2 q.symm), Hp.get_ne _ _ (fun q => q3 q.symm)]
  cases q : H.get b with
  | none => exact .inl ⟨by rw [e2, q], .inl (by rw [e1, q])⟩
  | some k => exact .inr ⟨k, k, by rw [e1, q], by rw [e2, q], rfl, rfl, fun _ _ => rfl⟩

/-- Three new blocks in any order. -/
theorem MTW.three {F : Hp} {ll : List Ins} {i1 i2 i3 j1 j2 j3 d1 d2 d3 s1 s2 s3 k1 k2 k3 : Nat} {t1 t2 t3 : TypeId} {z1 z2 z3 : Zs} {c1 c2 c3 : Nat → SV} (E : Nat → Nat → Nat → Env)
    (o1 : ll[i1]? = some ⟨some d1, none, .new t1 z1⟩) (o2 : ll[i2]? = some ⟨some d2, none, .new t2 z2⟩) (o3 : ll[i3]? = some ⟨some d3, none, .new t3 z3⟩)
    (p1 : ll[j1]? = some ⟨none, none, .st k1 (.t d1) (.t s1)⟩) (p2 : ll[j2]? = some ⟨none, none, .st k2 (.t d2) (.t s2)⟩) (p3 : ll[j3]? = some ⟨none, none, .st k3 (.t d3) (.t s3)⟩)
    (hy1 : e.get s1 = some (.arr k1 c1)) (hy2 : e.get s2 = some (.arr k2 c2)) (hy3 : e.get s3 = some (.arr k3 c3)) (hd : d1 ≠ d2 ∧ d1 ≠ d3 ∧ d2 ≠ d3) (hs : s1 ≠ d1 ∧ s1 ≠ d2 ∧ s1 ≠ d3 ∧ s2 ≠ d1 ∧ s2 ≠ d2 ∧ s2 ≠ d3 ∧ s3 ≠ d1 ∧ s3 ≠ d2 ∧ s3 ≠ d3)
    (hz1 : z1.size = k1) (hz2 : z2.size = k2) (hz3 : z3.size = k3)
    (hE : ∀ b1 b2 b3 e', e'.get d1 = some (ptr b1 0) → e'.get d2 = some (ptr b2 0) → e'.get d3 = some (ptr b3 0) → (∀ x, x ≠ d1 → x ≠ d2 → x ≠ d3 → e'.get x = e.get x) → EnvLe (E b1 b2 b3) e')
    (h : ∀ b1 b2 b3 n', n ≤ b1 → n ≤ b2 → n ≤ b3 → b1 ≠ b2 → b1 ≠ b3 → b2 ≠ b3 → H.get b1 = none → H.get b2 = none → H.get b3 = none → b1 < n' → b2 < n' → b3 < n' → n ≤ n' → CS P N m c (E b1 b2 b3) ((b1, ⟨k1, c1, t1⟩) :: (b2, ⟨k2, c2, t2⟩) :: (b3, ⟨k3, c3, t3⟩) :: H) n' Q) :
    MTW P N m F n ll (.fork (.seg i1 (.fork (.seg i2 (.seg i3 (.seg j1 (.seg j2 (.seg j3 .done))))) (.seg i3 (.seg i2 (.seg j1 (.seg j2 (.seg j3 .done))))))) (.fork (.seg i2 (.fork (.seg i1 (.seg i3 (.seg j1 (.seg j2 (.seg j3 .done))))) (.seg i3 (.seg i1 (.seg j1 (.seg j2 (.seg j3 .done))))))) (.seg i3 (.fork (.seg i1 (.seg i2 (.seg j1 (.seg j2 (.seg j3 .done))))) (.seg i2 (.seg i1 (.seg j1 (.seg j2 (.seg j3 .done))))))))) e H
      fun e3 H3 => ∀ n', n ≤ n' → (∀ b k, H3.get b = some k → b < n') → Ex.then (fun e' H' n' => CS P N m c e' H' n' Q) Q .normal e3 H3 n' := by
  obtain ⟨q12, q13, q23⟩ := hd
  obtain ⟨r11, r12, r13, r21, r22, r23, r31, r32, r33⟩ := hs
  have q21 := Ne.symm q12
  have q31 := Ne.symm q13
  have q32 := Ne.symm q23
  refine MTW.fork ?_ (MTW.fork ?_ ?_)
  · refine MTW.seg ?_
    rw [show OT.os (.seg i1 (.fork (.seg i2 (.seg i3 (.seg j1 (.seg j2 (.seg j3 .done))))) (.seg i3 (.seg i2 (.seg j1 (.seg j2 (.seg j3 .done))))))) = [i1] from rfl, show OT.rest (.seg i1 (.fork (.seg i2 (.seg i3 (.seg j1 (.seg j2 (.seg j3 .done))))) (.seg i3 (.seg i2 (.seg j1 (.seg j2 (.seg j3 .done))))))) = (.fork (.seg i2 (.seg i3 (.seg j1 (.seg j2 (.seg j3 .done))))) (.seg i3 (.seg i2 (.seg j1 (.seg j2 (.seg j3 .done)))))) from rfl, show pick [i1] ll = [⟨some d1, none, .new t1 z1⟩] by unfold pick; simp only [List.filterMap_cons, List.filterMap_nil, o1]]
    refine MS.new fun b1 hb1 g1 => MS.nil ?_
    refine MTW.fork ?_ ?_
    · refine MTW.seg ?_
      rw [show OT.os (.seg i2 (.seg i3 (.seg j1 (.seg j2 (.seg j3 .done))))) = [i2, i3, j1, j2, j3] from rfl, show OT.rest (.seg i2 (.seg i3 (.seg j1 (.seg j2 (.seg j3 .done))))) = .done from rfl, show pick [i2, i3, j1, j2, j3] ll = [⟨some d2, none, .new t2 z2⟩, ⟨some d3, none, .new t3 z3⟩, ⟨none, none, .st k1 (.t d1) (.t s1)⟩, ⟨none, none, .st k2 (.t d2) (.t s2)⟩, ⟨none, none, .st k3 (.t d3) (.t s3)⟩] by unfold pick; simp only [List.filterMap_cons, List.filterMap_nil, o2, o3, p1, p2, p3]]
      refine MS.new fun b2 hb2 f2 => MS.new fun b3 hb3 f3 => ?_
      have n12 : b1 ≠ b2 := by intro q; subst q; rw [Hp.get_eq] at f2; cases f2
      have n23 : b2 ≠ b3 := by intro q; subst q; rw [Hp.get_eq] at f3; cases f3
      have n13 : b1 ≠ b3 := by intro q; subst q; rw [Hp.get_ne _ _ (fun w => n12 w.symm), Hp.get_eq] at f3; cases f3
      have n21 := Ne.symm n12
      have n32 := Ne.symm n23
      have n31 := Ne.symm n13
      have g2 : H.get b2 = none := by rw [Hp.get_ne _ _ n12] at f2; exact f2
      have g3 : H.get b3 = none := by rw [Hp.get_ne _ _ n23, Hp.get_ne _ _ n13] at f3; exact f3
      have hge : ∀ w, w ≠ d1 → w ≠ d2 → w ≠ d3 → Env.get ((d3, ptr b3 0) :: (d2, ptr b2 0) :: (d1, ptr b1 0) :: e) w = e.get w := fun w w1 w2 w3 => by rw [Env.get_cons, if_neg (fun q => w3 q.symm), Env.get_cons, if_neg (fun q => w2 q.symm), Env.get_cons, if_neg (fun q => w1 q.symm)]
      have x1 : Env.get ((d3, ptr b3 0) :: (d2, ptr b2 0) :: (d1, ptr b1 0) :: e) d1 = some (ptr b1 0) := by rw [Env.get_cons, if_neg q31, Env.get_cons, if_neg q21, Env.get_cons, if_pos rfl]
      have x2 : Env.get ((d3, ptr b3 0) :: (d2, ptr b2 0) :: (d1, ptr b1 0) :: e) d2 = some (ptr b2 0) := by rw [Env.get_cons, if_neg q32, Env.get_cons, if_pos rfl]
      have x3 : Env.get ((d3, ptr b3 0) :: (d2, ptr b2 0) :: (d1, ptr b1 0) :: e) d3 = some (ptr b3 0) := by rw [Env.get_cons, if_pos rfl]
      exact three_tail (e3 := (d3, ptr b3 0) :: (d2, ptr b2 0) :: (d1, ptr b1 0) :: e) ⟨x1, x2, x3⟩ ⟨by rw [hge s1 r11 r12 r13]; exact hy1, by rw [hge s2 r21 r22 r23]; exact hy2, by rw [hge s3 r31 r32 r33]; exact hy3⟩ hz1 hz2 hz3 (by rw [Hp.get_ne _ _ n31, Hp.get_ne _ _ n21, Hp.get_eq]) (by rw [Hp.get_ne _ _ n32, Hp.get_eq]) (by rw [Hp.get_eq]) (fun w w1 w2 w3 => by rw [Hp.get_ne _ _ (fun q => w3 q.symm), Hp.get_ne _ _ (fun q => w2 q.symm), Hp.get_ne _ _ (fun q => w1 q.symm)]) n12 n13 n23 hb1 hb2 hb3 (hE b1 b2 b3 _ x1 x2 x3 hge) (fun n' h1 h2 h3 h4 => h b1 b2 b3 n' hb1 hb2 hb3 n12 n13 n23 g1 g2 g3 h2 h3 h4 h1)
    · refine MTW.seg ?_
      rw [show OT.os (.seg i3 (.seg i2 (.seg j1 (.seg j2 (.seg j3 .done))))) = [i3, i2, j1, j2, j3] from rfl, show OT.rest (.seg i3 (.seg i2 (.seg j1 (.seg j2 (.seg j3 .done))))) = .done from rfl, show pick [i3, i2, j1, j2, j3] ll = [⟨some d3, none, .new t3 z3⟩, ⟨some d2, none, .new t2 z2⟩, ⟨none, none, .st k1 (.t d1) (.t s1)⟩, ⟨none, none, .st k2 (.t d2) (.t s2)⟩, ⟨none, none, .st k3 (.t d3) (.t s3)⟩] by unfold pick; simp only [List.filterMap_cons, List.filterMap_nil, o3, o2, p1, p2, p3]]
      refine MS.new fun b3 hb3 f3 => MS.new fun b2 hb2 f2 => ?_
      have n13 : b1 ≠ b3 := by intro q; subst q; rw [Hp.get_eq] at f3; cases f3
      have n32 : b3 ≠ b2 := by intro q; subst q; rw [Hp.get_eq] at f2; cases f2
      have n12 : b1 ≠ b2 := by intro q; subst q; rw [Hp.get_ne _ _ (fun w => n13 w.symm), Hp.get_eq] at f2; cases f2
      have n31 := Ne.symm n13
      have n23 := Ne.symm n32
      have n21 := Ne.symm n12
      have g3 : H.get b3 = none := by rw [Hp.get_ne _ _ n13] at f3; exact f3
      have g2 : H.get b2 = none := by rw [Hp.get_ne _ _ n32, Hp.get_ne _ _ n12] at f2; exact f2
      have hge : ∀ w, w ≠ d1 → w ≠ d2 → w ≠ d3 → Env.get ((d2, ptr b2 0) :: (d3, ptr b3 0) :: (d1, ptr b1 0) :: e) w = e.get w := fun w w1 w2 w3 => by rw [Env.get_cons, if_neg (fun q => w2 q.symm), Env.get_cons, if_neg (fun q => w3 q.symm), Env.get_cons, if_neg (fun q => w1 q.symm)]
      have x1 : Env.get ((d2, ptr b2 0) :: (d3, ptr b3 0) :: (d1, ptr b1 0) :: e) d1 = some (ptr b1 0) := by rw [Env.get_cons, if_neg q21, Env.get_cons, if_neg q31, Env.get_cons, if_pos rfl]
      have x2 : Env.get ((d2, ptr b2 0) :: (d3, ptr b3 0) :: (d1, ptr b1 0) :: e) d2 = some (ptr b2 0) := by rw [Env.get_cons, if_pos rfl]
      have x3 : Env.get ((d2, ptr b2 0) :: (d3, ptr b3 0) :: (d1, ptr b1 0) :: e) d3 = some (ptr b3 0) := by rw [Env.get_cons, if_neg q23, Env.get_cons, if_pos rfl]
      exact three_tail (e3 := (d2, ptr b2 0) :: (d3, ptr b3 0) :: (d1, ptr b1 0) :: e) ⟨x1, x2, x3⟩ ⟨by rw [hge s1 r11 r12 r13]; exact hy1, by rw [hge s2 r21 r22 r23]; exact hy2, by rw [hge s3 r31 r32 r33]; exact hy3⟩ hz1 hz2 hz3 (by rw [Hp.get_ne _ _ n21, Hp.get_ne _ _ n31, Hp.get_eq]) (by rw [Hp.get_eq]) (by rw [Hp.get_ne _ _ n23, Hp.get_eq]) (fun w w1 w2 w3 => by rw [Hp.get_ne _ _ (fun q => w2 q.symm), Hp.get_ne _ _ (fun q => w3 q.symm), Hp.get_ne _ _ (fun q => w1 q.symm)]) n12 n13 n23 hb1 hb2 hb3 (hE b1 b2 b3 _ x1 x2 x3 hge) (fun n' h1 h2 h3 h4 => h b1 b2 b3 n' hb1 hb2 hb3 n12 n13 n23 g1 g2 g3 h2 h3 h4 h1)
  · refine MTW.seg ?_
    rw [show OT.os (.seg i2 (.fork (.seg i1 (.seg i3 (.seg j1 (.seg j2 (.seg j3 .done))))) (.seg i3 (.seg i1 (.seg j1 (.seg j2 (.seg j3 .done))))))) = [i2] from rfl, show OT.rest (.seg i2 (.fork (.seg i1 (.seg i3 (.seg j1 (.seg j2 (.seg j3 .done))))) (.seg i3 (.seg i1 (.seg j1 (.seg j2 (.seg j3 .done))))))) = (.fork (.seg i1 (.seg i3 (.seg j1 (.seg j2 (.seg j3 .done))))) (.seg i3 (.seg i1 (.seg j1 (.seg j2 (.seg j3 .done)))))) from rfl, show pick [i2] ll = [⟨some d2, none, .new t2 z2⟩] by unfold pick; simp only [List.filterMap_cons, List.filterMap_nil, o2]]
    refine MS.new fun b2 hb2 g2 => MS.nil ?_
    refine MTW.fork ?_ ?_
    · refine MTW.seg ?_
      rw [show OT.os (.seg i1 (.seg i3 (.seg j1 (.seg j2 (.seg j3 .done))))) = [i1, i3, j1, j2, j3] from rfl, show OT.rest (.seg i1 (.seg i3 (.seg j1 (.seg j2 (.seg j3 .done))))) = .done from rfl, show pick [i1, i3, j1, j2, j3] ll = [⟨some d1, none, .new t1 z1⟩, ⟨some d3, none, .new t3 z3⟩, ⟨none, none, .st k1 (.t d1) (.t s1)⟩, ⟨none, none, .st k2 (.t d2) (.t s2)⟩, ⟨none, none, .st k3 (.t d3) (.t s3)⟩] by unfold pick; simp only [List.filterMap_cons, List.filterMap_nil, o1, o3, p1, p2, p3]]
      refine MS.new fun b1 hb1 f1 => MS.new fun b3 hb3 f3 => ?_
      have n21 : b2 ≠ b1 := by intro q; subst q; rw [Hp.get_eq] at f1; cases f1
      have n13 : b1 ≠ b3 := by intro q; subst q; rw [Hp.get_eq] at f3; cases f3
      have n23 : b2 ≠ b3 := by intro q; subst q; rw [Hp.get_ne _ _ (fun w => n21 w.symm), Hp.get_eq] at f3; cases f3
      have n12 := Ne.symm n21
      have n31 := Ne.symm n13
      have n32 := Ne.symm n23
      have g1 : H.get b1 = none := by rw [Hp.get_ne _ _ n21] at f1; exact f1
      have g3 : H.get b3 = none := by rw [Hp.get_ne _ _ n13, Hp.get_ne _ _ n23] at f3; exact f3
      have hge : ∀ w, w ≠ d1 → w ≠ d2 → w ≠ d3 → Env.get ((d3, ptr b3 0) :: (d1, ptr b1 0) :: (d2, ptr b2 0) :: e) w = e.get w := fun w w1 w2 w3 => by rw [Env.get_cons, if_neg (fun q => w3 q.symm), Env.get_cons, if_neg (fun q => w1 q.symm), Env.get_cons, if_neg (fun q => w2 q.symm)]
      have x1 : Env.get ((d3, ptr b3 0) :: (d1, ptr b1 0) :: (d2, ptr b2 0) :: e) d1 = some (ptr b1 0) := by rw [Env.get_cons, if_neg q31, Env.get_cons, if_pos rfl]
      have x2 : Env.get ((d3, ptr b3 0) :: (d1, ptr b1 0) :: (d2, ptr b2 0) :: e) d2 = some (ptr b2 0) := by rw [Env.get_cons, if_neg q32, Env.get_cons, if_neg q12, Env.get_cons, if_pos rfl]
      have x3 : Env.get ((d3, ptr b3 0) :: (d1, ptr b1 0) :: (d2, ptr b2 0) :: e) d3 = some (ptr b3 0) := by rw [Env.get_cons, if_pos rfl]
      exact three_tail (e3 := (d3, ptr b3 0) :: (d1, ptr b1 0) :: (d2, ptr b2 0) :: e) ⟨x1, x2, x3⟩ ⟨by rw [hge s1 r11 r12 r13]; exact hy1, by rw [hge s2 r21 r22 r23]; exact hy2, by rw [hge s3 r31 r32 r33]; exact hy3⟩ hz1 hz2 hz3 (by rw [Hp.get_ne _ _ n31, Hp.get_eq]) (by rw [Hp.get_ne _ _ n32, Hp.get_ne _ _ n12, Hp.get_eq]) (by rw [Hp.get_eq]) (fun w w1 w2 w3 => by rw [Hp.get_ne _ _ (fun q => w3 q.symm), Hp.get_ne _ _ (fun q => w1 q.symm), Hp.get_ne _ _ (fun q => w2 q.symm)]) n12 n13 n23 hb1 hb2 hb3 (hE b1 b2 b3 _ x1 x2 x3 hge) (fun n' h1 h2 h3 h4 => h b1 b2 b3 n' hb1 hb2 hb3 n12 n13 n23 g1 g2 g3 h2 h3 h4 h1)
    · refine MTW.seg ?_
      rw [show OT.os (.seg i3 (.seg i1 (.seg j1 (.seg j2 (.seg j3 .done))))) = [i3, i1, j1, j2, j3] from rfl, show OT.rest (.seg i3 (.seg i1 (.seg j1 (.seg j2 (.seg j3 .done))))) = .done from rfl, show pick [i3, i1, j1, j2, j3] ll = [⟨some d3, none, .new t3 z3⟩, ⟨some d1, none, .new t1 z1⟩, ⟨none, none, .st k1 (.t d1) (.t s1)⟩, ⟨none, none, .st k2 (.t d2) (.t s2)⟩, ⟨none, none, .st k3 (.t d3) (.t s3)⟩] by unfold pick; simp only [List.filterMap_cons, List.filterMap_nil, o3, o1, p1, p2, p3]]
      refine MS.new fun b3 hb3 f3 => MS.new fun b1 hb1 f1 => ?_
      have n23 : b2 ≠ b3 := by intro q; subst q; rw [Hp.get_eq] at f3; cases f3
      have n31 : b3 ≠ b1 := by intro q; subst q; rw [Hp.get_eq] at f1; cases f1
      have n21 : b2 ≠ b1 := by intro q; subst q; rw [Hp.get_ne _ _ (fun w => n23 w.symm), Hp.get_eq] at f1; cases f1
      have n32 := Ne.symm n23
      have n13 := Ne.symm n31
      have n12 := Ne.symm n21
      have g3 : H.get b3 = none := by rw [Hp.get_ne _ _ n23] at f3; exact f3
      have g1 : H.get b1 = none := by rw [Hp.get_ne _ _ n31, Hp.get_ne _ _ n21] at f1; exact f1
      have hge : ∀ w, w ≠ d1 → w ≠ d2 → w ≠ d3 → Env.get ((d1, ptr b1 0) :: (d3, ptr b3 0) :: (d2, ptr b2 0) :: e) w = e.get w := fun w w1 w2 w3 => by rw [Env.get_cons, if_neg (fun q => w1 q.symm), Env.get_cons, if_neg (fun q => w3 q.symm), Env.get_cons, if_neg (fun q => w2 q.symm)]
      have x1 : Env.get ((d1, ptr b1 0) :: (d3, ptr b3 0) :: (d2, ptr b2 0) :: e) d1 = some (ptr b1 0) := by rw [Env.get_cons, if_pos rfl]
      have x2 : Env.get ((d1, ptr b1 0) :: (d3, ptr b3 0) :: (d2, ptr b2 0) :: e) d2 = some (ptr b2 0) := by rw [Env.get_cons, if_neg q12, Env.get_cons, if_neg q32, Env.get_cons, if_pos rfl]
      have x3 : Env.get ((d1, ptr b1 0) :: (d3, ptr b3 0) :: (d2, ptr b2 0) :: e) d3 = some (ptr b3 0) := by rw [Env.get_cons, if_neg q13, Env.get_cons, if_pos rfl]
      exact three_tail (e3 := (d1, ptr b1 0) :: (d3, ptr b3 0) :: (d2, ptr b2 0) :: e) ⟨x1, x2, x3⟩ ⟨by rw [hge s1 r11 r12 r13]; exact hy1, by rw [hge s2 r21 r22 r23]; exact hy2, by rw [hge s3 r31 r32 r33]; exact hy3⟩ hz1 hz2 hz3 (by rw [Hp.get_eq]) (by rw [Hp.get_ne _ _ n12, Hp.get_ne _ _ n32, Hp.get_eq]) (by rw [Hp.get_ne _ _ n13, Hp.get_eq]) (fun w w1 w2 w3 => by rw [Hp.get_ne _ _ (fun q => w1 q.symm), Hp.get_ne _ _ (fun q => w3 q.symm), Hp.get_ne _ _ (fun q => w2 q.symm)]) n12 n13 n23 hb1 hb2 hb3 (hE b1 b2 b3 _ x1 x2 x3 hge) (fun n' h1 h2 h3 h4 => h b1 b2 b3 n' hb1 hb2 hb3 n12 n13 n23 g1 g2 g3 h2 h3 h4 h1)
  · refine MTW.seg ?_
    rw [show OT.os (.seg i3 (.fork (.seg i1 (.seg i2 (.seg j1 (.seg j2 (.seg j3 .done))))) (.seg i2 (.seg i1 (.seg j1 (.seg j2 (.seg j3 .done))))))) = [i3] from rfl, show OT.rest (.seg i3 (.fork (.seg i1 (.seg i2 (.seg j1 (.seg j2 (.seg j3 .done))))) (.seg i2 (.seg i1 (.seg j1 (.seg j2 (.seg j3 .done))))))) = (.fork (.seg i1 (.seg i2 (.seg j1 (.seg j2 (.seg j3 .done))))) (.seg i2 (.seg i1 (.seg j1 (.seg j2 (.seg j3 .done)))))) from rfl, show pick [i3] ll = [⟨some d3, none, .new t3 z3⟩] by unfold pick; simp only [List.filterMap_cons, List.filterMap_nil, o3]]
    refine MS.new fun b3 hb3 g3 => MS.nil ?_
    refine MTW.fork ?_ ?_
    · refine MTW.seg ?_
      rw [show OT.os (.seg i1 (.seg i2 (.seg j1 (.seg j2 (.seg j3 .done))))) = [i1, i2, j1, j2, j3] from rfl, show OT.rest (.seg i1 (.seg i2 (.seg j1 (.seg j2 (.seg j3 .done))))) = .done from rfl, show pick [i1, i2, j1, j2, j3] ll = [⟨some d1, none, .new t1 z1⟩, ⟨some d2, none, .new t2 z2⟩, ⟨none, none, .st k1 (.t d1) (.t s1)⟩, ⟨none, none, .st k2 (.t d2) (.t s2)⟩, ⟨none, none, .st k3 (.t d3) (.t s3)⟩] by unfold pick; simp only [List.filterMap_cons, List.filterMap_nil, o1, o2, p1, p2, p3]]
      refine MS.new fun b1 hb1 f1 => MS.new fun b2 hb2 f2 => ?_
      have n31 : b3 ≠ b1 := by intro q; subst q; rw [Hp.get_eq] at f1; cases f1
      have n12 : b1 ≠ b2 := by intro q; subst q; rw [Hp.get_eq] at f2; cases f2
      have n32 : b3 ≠ b2 := by intro q; subst q; rw [Hp.get_ne _ _ (fun w => n31 w.symm), Hp.get_eq] at f2; cases f2
      have n13 := Ne.symm n31
      have n21 := Ne.symm n12
      have n23 := Ne.symm n32
      have g1 : H.get b1 = none := by rw [Hp.get_ne _ _ n31] at f1; exact f1
      have g2 : H.get b2 = none := by rw [Hp.get_ne _ _ n12, Hp.get_ne _ _ n32] at f2; exact f2
      have hge : ∀ w, w ≠ d1 → w ≠ d2 → w ≠ d3 → Env.get ((d2, ptr b2 0) :: (d1, ptr b1 0) :: (d3, ptr b3 0) :: e) w = e.get w := fun w w1 w2 w3 => by rw [Env.get_cons, if_neg (fun q => w2 q.symm), Env.get_cons, if_neg (fun q => w1 q.symm), Env.get_cons, if_neg (fun q => w3 q.symm)]
      have x1 : Env.get ((d2, ptr b2 0) :: (d1, ptr b1 0) :: (d3, ptr b3 0) :: e) d1 = some (ptr b1 0) := by rw [Env.get_cons, if_neg q21, Env.get_cons, if_pos rfl]
      have x2 : Env.get ((d2, ptr b2 0) :: (d1, ptr b1 0) :: (d3, ptr b3 0) :: e) d2 = some (ptr b2 0) := by rw [Env.get_cons, if_pos rfl]
      have x3 : Env.get ((d2, ptr b2 0) :: (d1, ptr b1 0) :: (d3, ptr b3 0) :: e) d3 = some (ptr b3 0) := by rw [Env.get_cons, if_neg q23, Env.get_cons, if_neg q13, Env.get_cons, if_pos rfl]
      exact three_tail (e3 := (d2, ptr b2 0) :: (d1, ptr b1 0) :: (d3, ptr b3 0) :: e) ⟨x1, x2, x3⟩ ⟨by rw [hge s1 r11 r12 r13]; exact hy1, by rw [hge s2 r21 r22 r23]; exact hy2, by rw [hge s3 r31 r32 r33]; exact hy3⟩ hz1 hz2 hz3 (by rw [Hp.get_ne _ _ n21, Hp.get_eq]) (by rw [Hp.get_eq]) (by rw [Hp.get_ne _ _ n23, Hp.get_ne _ _ n13, Hp.get_eq]) (fun w w1 w2 w3 => by rw [Hp.get_ne _ _ (fun q => w2 q.symm), Hp.get_ne _ _ (fun q => w1 q.symm), Hp.get_ne _ _ (fun q => w3 q.symm)]) n12 n13 n23 hb1 hb2 hb3 (hE b1 b2 b3 _ x1 x2 x3 hge) (fun n' h1 h2 h3 h4 => h b1 b2 b3 n' hb1 hb2 hb3 n12 n13 n23 g1 g2 g3 h2 h3 h4 h1)
    · refine MTW.seg ?_
      rw [show OT.os (.seg i2 (.seg i1 (.seg j1 (.seg j2 (.seg j3 .done))))) = [i2, i1, j1, j2, j3] from rfl, show OT.rest (.seg i2 (.seg i1 (.seg j1 (.seg j2 (.seg j3 .done))))) = .done from rfl, show pick [i2, i1, j1, j2, j3] ll = [⟨some d2, none, .new t2 z2⟩, ⟨some d1, none, .new t1 z1⟩, ⟨none, none, .st k1 (.t d1) (.t s1)⟩, ⟨none, none, .st k2 (.t d2) (.t s2)⟩, ⟨none, none, .st k3 (.t d3) (.t s3)⟩] by unfold pick; simp only [List.filterMap_cons, List.filterMap_nil, o2, o1, p1, p2, p3]]
      refine MS.new fun b2 hb2 f2 => MS.new fun b1 hb1 f1 => ?_
      have n32 : b3 ≠ b2 := by intro q; subst q; rw [Hp.get_eq] at f2; cases f2
      have n21 : b2 ≠ b1 := by intro q; subst q; rw [Hp.get_eq] at f1; cases f1
      have n31 : b3 ≠ b1 := by intro q; subst q; rw [Hp.get_ne _ _ (fun w => n32 w.symm), Hp.get_eq] at f1; cases f1
      have n23 := Ne.symm n32
      have n12 := Ne.symm n21
      have n13 := Ne.symm n31
      have g2 : H.get b2 = none := by rw [Hp.get_ne _ _ n32] at f2; exact f2
      have g1 : H.get b1 = none := by rw [Hp.get_ne _ _ n21, Hp.get_ne _ _ n31] at f1; exact f1
      have hge : ∀ w, w ≠ d1 → w ≠ d2 → w ≠ d3 → Env.get ((d1, ptr b1 0) :: (d2, ptr b2 0) :: (d3, ptr b3 0) :: e) w = e.get w := fun w w1 w2 w3 => by rw [Env.get_cons, if_neg (fun q => w1 q.symm), Env.get_cons, if_neg (fun q => w2 q.symm), Env.get_cons, if_neg (fun q => w3 q.symm)]
      have x1 : Env.get ((d1, ptr b1 0) :: (d2, ptr b2 0) :: (d3, ptr b3 0) :: e) d1 = some (ptr b1 0) := by rw [Env.get_cons, if_pos rfl]
      have x2 : Env.get ((d1, ptr b1 0) :: (d2, ptr b2 0) :: (d3, ptr b3 0) :: e) d2 = some (ptr b2 0) := by rw [Env.get_cons, if_neg q12, Env.get_cons, if_pos rfl]
      have x3 : Env.get ((d1, ptr b1 0) :: (d2, ptr b2 0) :: (d3, ptr b3 0) :: e) d3 = some (ptr b3 0) := by rw [Env.get_cons, if_neg q13, Env.get_cons, if_neg q23, Env.get_cons, if_pos rfl]
      exact three_tail (e3 := (d1, ptr b1 0) :: (d2, ptr b2 0) :: (d3, ptr b3 0) :: e) ⟨x1, x2, x3⟩ ⟨by rw [hge s1 r11 r12 r13]; exact hy1, by rw [hge s2 r21 r22 r23]; exact hy2, by rw [hge s3 r31 r32 r33]; exact hy3⟩ hz1 hz2 hz3 (by rw [Hp.get_eq]) (by rw [Hp.get_ne _ _ n12, Hp.get_eq]) (by rw [Hp.get_ne _ _ n13, Hp.get_ne _ _ n23, Hp.get_eq]) (fun w w1 w2 w3 => by rw [Hp.get_ne _ _ (fun q => w1 q.symm), Hp.get_ne _ _ (fun q => w2 q.symm), Hp.get_ne _ _ (fun q => w3 q.symm)]) n12 n13 n23 hb1 hb2 hb3 (hE b1 b2 b3 _ x1 x2 x3 hge) (fun n' h1 h2 h3 h4 => h b1 b2 b3 n' hb1 hb2 hb3 n12 n13 n23 g1 g2 g3 h2 h3 h4 h1)

end

end Go.V

/- Adjoint actions, normal sub Hopf algebras, the reference's. -/

namespace Go.V

set_option linter.unusedSimpArgs false

set_option linter.unusedVariables false

/-- The sum of the first t entries of a table times vectors. -/
def adk (p : Int) (M : Nat → Int) (g : Nat → Nat → Int) (t : Nat) : Nat → Int := fun x => sm (fun s => M s * g s x) t % p

theorem adk_zero (p : Int) (M : Nat → Int) (g : Nat → Nat → Int) : adk p M g 0 = fun _ => 0 := by funext x; simp [adk, sm]

theorem adk_step (p : Int) (M : Nat → Int) (g : Nat → Nat → Int) (t : Nat) : pl p (adk p M g t) (M t) (g t) = adk p M g (t + 1) := by
  funext x; unfold pl adk; rw [modAddL, sm]

theorem adk_more {p : Int} {M : Nat → Int} {g : Nat → Nat → Int} {t t' : Nat} (h : t ≤ t') (hz : ∀ s, t ≤ s → s < t' → M s = 0) : adk p M g t = adk p M g t' := by
  funext x; unfold adk; rw [sm_more h (fun s h1 h2 => by rw [hz s h1 h2, Int.zero_mul])]

theorem adk_res {p : Int} (hp : 2 ≤ p) (M : Nat → Int) (g : Nat → Nat → Int) (t N : Nat) : isRes p N (adk p M g t) := fun _ _ => modB _ hp

/-- The parts left and right of a vector in an adjoint action. -/
noncomputable def adl (h : HT) (rt : Prop) (t : Nat) : Nat → Int := if tb rt = true then fun q => h.s (8 * (t / 8) + q) else bas (t / 8)

noncomputable def adr (h : HT) (rt : Prop) (t : Nat) : Nat → Int := if tb rt = true then bas (t % 8) else fun q => h.s (8 * (t % 8) + q)

noncomputable def adg (h : HT) (a : Nat) (rt : Prop) (y : Nat → Int) (t : Nat) : Nat → Int := pr h.p h.m (pr h.p h.m (adl h rt t) y a) (adr h rt t) a

/-- An adjoint action. -/
noncomputable def adj (h : HT) (a : Nat) (rt : Prop) (x y : Nat → Int) : Nat → Int := adk h.p (cps h.p h.c x 8) (adg h a rt y) 64

theorem adl_by {h : HT} (hB : h.By) (rt : Prop) {t : Nat} (ht : t < 64) : isBy 8 (adl h rt t) := fun q hq => by
  unfold adl; split
  · exact hB.s _ (by omega)
  · unfold bas; split <;> omega

theorem adr_by {h : HT} (hB : h.By) (rt : Prop) {t : Nat} (ht : t < 64) : isBy 8 (adr h rt t) := fun q hq => by
  unfold adr; split
  · unfold bas; split <;> omega
  · exact hB.s _ (by omega)

end Go.V

namespace Go.Proofs.YtideblodkkgodaaGreat

open Go.V

variable [BW]

set_option linter.unusedSimpArgs false

set_option linter.unusedVariables false

set_option maxHeartbeats 4000000

/-- spec.l07Adjoint -/
def ir39 : Cd := (.seq (.reg [⟨some 4,none,.box 38 (.t 0)⟩,⟨some 5,none,.box 32 (.t 1)⟩,⟨some 6,none,.box 32 (.t 2)⟩,⟨some 8,none,.new 32 [(8,(.int .u8 0))]⟩]) (.seq (.mixt [] [⟨some 16,none,.ld (some 1106) (.t 4)⟩,⟨some 17,none,.ld (some 8) (.t 5)⟩,⟨some 18,none,.call 59 [(.t 16),(.t 17)]⟩,⟨some 19,none,.build 8 [(8,(.int .u8 0))] []⟩,⟨some 20,none,.ld (some 1106) (.t 4)⟩,⟨some 21,none,.call 20 [(.t 20)]⟩] [⟨some 16,none,.ld (some 1106) (.t 4)⟩,⟨some 17,none,.ld (some 8) (.t 5)⟩,⟨some 18,none,.call 59 [(.t 16),(.t 17)]⟩,⟨some 19,none,.build 8 [(8,(.int .u8 0))] []⟩,⟨some 20,none,.ld (some 1106) (.t 4)⟩,⟨some 21,none,.call 20 [(.t 20)]⟩,⟨some 9,none,.new 34 [(64,(.int .u8 0))]⟩,⟨some 10,none,.new 32 [(8,(.int .u8 0))]⟩,⟨some 11,none,.new 52 [(2,(.int .i64 0)),(520,(.int .u8 0))]⟩,⟨none,none,.st 64 (.t 9) (.t 18)⟩,⟨none,none,.st 8 (.t 10) (.t 19)⟩,⟨none,none,.st 522 (.t 11) (.t 21)⟩] (.fork (.seg 6 (.fork (.seg 7 (.seg 8 (.seg 9 (.seg 10 (.seg 11 .done))))) (.seg 8 (.seg 7 (.seg 9 (.seg 10 (.seg 11 .done))))))) (.fork (.seg 7 (.fork (.seg 6 (.seg 8 (.seg 9 (.seg 10 (.seg 11 .done))))) (.seg 8 (.seg 6 (.seg 9 (.seg 10 (.seg 11 .done))))))) (.seg 8 (.fork (.seg 6 (.seg 7 (.seg 9 (.seg 10 (.seg 11 .done))))) (.seg 7 (.seg 6 (.seg 9 (.seg 10 (.seg 11 .done)))))))))) (.seq (.seq (.reg [⟨some 12,none,.mov (.c (.int .i64 0))⟩]) (.block 0 (.loop (.seq (.seq (.reg [⟨some 22,none,.mov (.t 12)⟩,⟨some 23,none,.fa 1 (.t 4)⟩,⟨some 24,none,.ld none (.t 23)⟩,⟨some 25,none,.bin .lss (.t 22) (.t 24)⟩]) (.cond (.t 25) .skip (.exit 0))) (.seq (.block 1 (.seq (.reg [⟨some 13,none,.mov (.c (.int .i64 0))⟩]) (.block 2 (.loop (.seq (.seq (.reg [⟨some 28,none,.mov (.t 13)⟩,⟨some 29,none,.fa 1 (.t 4)⟩,⟨some 30,none,.ld none (.t 29)⟩,⟨some 31,none,.bin .lss (.t 28) (.t 30)⟩]) (.cond (.t 31) .skip (.exit 2))) (.seq (.block 3 (.seq (.seq (.reg [⟨some 34,none,.mov (.t 12)⟩,⟨some 35,none,.mov (.t 13)⟩,⟨some 36,none,.ia 8 8 (.t 9) (.t 34)⟩,⟨some 37,none,.ia 8 1 (.t 36) (.t 35)⟩,⟨some 38,none,.ld none (.t 37)⟩,⟨some 39,none,.bin .eql (.t 38) (.c (.int .u8 0))⟩]) (.cond (.t 39) (.exit 3) .skip)) (.seq (.mixt [] [⟨some 40,none,.mov (.t 12)⟩,⟨some 41,none,.call 21 [(.t 40)]⟩,⟨some 42,none,.mov (.t 13)⟩,⟨some 43,none,.fa 1042 (.t 4)⟩,⟨some 44,none,.ia 8 8 (.t 43) (.t 42)⟩,⟨some 45,none,.ld (some 8) (.t 44)⟩] [⟨some 40,none,.mov (.t 12)⟩,⟨some 41,none,.call 21 [(.t 40)]⟩,⟨some 42,none,.mov (.t 13)⟩,⟨some 43,none,.fa 1042 (.t 4)⟩,⟨some 44,none,.ia 8 8 (.t 43) (.t 42)⟩,⟨some 45,none,.ld (some 8) (.t 44)⟩,⟨some 14,none,.new 32 [(8,(.int .u8 0))]⟩,⟨some 15,none,.new 32 [(8,(.int .u8 0))]⟩,⟨none,none,.st 8 (.t 14) (.t 41)⟩,⟨none,none,.st 8 (.t 15) (.t 45)⟩] (.fork (.seg 6 (.seg 7 (.seg 8 (.seg 9 .done)))) (.seg 7 (.seg 6 (.seg 8 (.seg 9 .done)))))) (.seq (.seq (.reg [⟨some 46,none,.mov (.t 3)⟩]) (.cond (.t 46) (.seq (.reg [⟨some 47,none,.mov (.t 12)⟩,⟨some 48,none,.fa 1042 (.t 4)⟩,⟨some 49,none,.ia 8 8 (.t 48) (.t 47)⟩,⟨some 50,none,.ld (some 8) (.t 49)⟩,⟨none,none,.st 8 (.t 14) (.t 50)⟩]) (.reg [⟨some 51,none,.mov (.t 13)⟩,⟨some 52,none,.call 21 [(.t 51)]⟩,⟨none,none,.st 8 (.t 15) (.t 52)⟩])) .skip)) (.drwo true [16,17] [0,1,2,3,4,5,6,8,10,11,12,13,14,15,7,9,16,17] [⟨some 53,none,.fa 0 (.t 4)⟩,⟨some 54,none,.ld none (.t 53)⟩,⟨some 55,none,.ld (some 8) (.t 10)⟩,⟨some 56,none,.ld (some 522) (.t 11)⟩,⟨some 57,none,.ld (some 522) (.t 11)⟩,⟨some 58,none,.ld (some 8) (.t 14)⟩,⟨some 59,none,.ld (some 8) (.t 6)⟩,⟨some 60,none,.call 19 [(.t 57),(.t 58),(.t 59)]⟩,⟨some 61,none,.ld (some 8) (.t 15)⟩,⟨some 62,none,.call 19 [(.t 56),(.t 60),(.t 61)]⟩,⟨some 63,none,.mov (.t 12)⟩,⟨some 64,none,.mov (.t 13)⟩,⟨some 65,none,.ia 8 8 (.t 9) (.t 63)⟩,⟨some 66,none,.ia 8 1 (.t 65) (.t 64)⟩,⟨some 67,none,.ld none (.t 66)⟩,⟨some 68,none,.cv .i64 (.t 67)⟩,⟨some 69,none,.call 42 [(.t 54),(.t 55),(.t 62),(.t 68)]⟩,⟨none,none,.st 8 (.t 10) (.t 69)⟩]))))) (.reg [⟨some 32,none,.mov (.t 13)⟩,⟨some 33,none,.bin .add (.t 32) (.c (.int .i64 1))⟩,⟨some 13,none,.mov (.t 33)⟩]))))))) (.reg [⟨some 26,none,.mov (.t 12)⟩,⟨some 27,none,.bin .add (.t 26) (.c (.int .i64 1))⟩,⟨some 12,none,.mov (.t 27)⟩])))))) (.seq (.reg [⟨some 70,none,.ld (some 8) (.t 10)⟩,⟨none,none,.st 8 (.t 8) (.t 70)⟩]) .ret))))

set_option maxRecDepth 100000 in
theorem tr39 : trFn Tryz.prog Tryz.f39 = some (71, ir39, [.cell (some 8) 8]) := by kernel_rfl

theorem spec_l07Adjoint (h : HT) (a : Nat) (rt : Prop) (x y : Nat → Int) (K : Nat → SV) (H : Hp) (n : Nat) (hS : HS h a) (hK : h.At K) (hB : h.By) (hx : isBy 8 x) (hy : isBy 8 y) :
    FnS Tryz.prog 39 [.arr 1106 K, .arr 8 (bys x), .arr 8 (bys y), bl (tb rt)] H n (fun r H' _ => r = .arr 8 (bys (adj h a rt x y)) ∧ H' = H) := by
  have hb := hS.hp
  have ha := hS.ha
  have k0 := hK.p
  have k1 := hK.n
  rw [hS.hn] at k1
  have k1' : K (0 + 1) = .int .i64 (a : Nat) := k1
  have k6 := hK.s
  obtain ⟨M, hM⟩ : ∃ M, M = cps h.p h.c x 8 := ⟨_, rfl⟩
  have hMr : isRes h.p 64 M := by rw [hM]; exact cps_res hb.1 _ _ _ _
  have hMz : ∀ x y, x < 8 → y < 8 → (a ≤ x ∨ a ≤ y) → M (8 * x + y) = 0 := fun x y hx hy q => by rw [hM]; exact cps_z hS.cm hx hy q
  obtain ⟨G, hG⟩ : ∃ G, G = adg h a rt y := ⟨_, rfl⟩
  have hGt : ∀ t, G t = pr h.p h.m (pr h.p h.m (adl h rt t) y a) (adr h rt t) a := fun t => by rw [hG]; rfl
  refine FnS.of_body Tryz.func39 tr39 (by simp) (fun hf => ?_)
  dsimp only [argEnv]
  unfold ir39
  (refine zG ?_)
  refine CS.mixtL _ (fun _ _ h => h) ?_
  (repeat first|refine zG ?_|(refine LS.nilQ ?_;try with_reducible intro nq hnq;try refine zU ?_))
  refine LS.callQ (.arr 64 (bys M)) rfl (fun n' hn' => by rw [hM]; exact FnS.args (concs_cons (conc_arr (fun q hq => by first | rfl | (simp only [Nat.zero_add]; done) | (simp only [Nat.zero_add]; rfl))) (concs_cons (conc_arr (fun q hq => by first | rfl | (simp only [Nat.zero_add]; done) | (simp only [Nat.zero_add]; rfl))) rfl)) (spec_l03Coproduct h a x K _ _ hS hK hB hx)) ?_
  (refine zG ?_)
  refine LS.callQ (.arr 522 K) rfl (fun n' hn' => FnS.args (concs_cons (conc_arr (fun q hq => by first | rfl | (simp only [Nat.zero_add]; done) | (simp only [Nat.zero_add]; rfl))) rfl) (spec_l03Algebra K h _ _ hK)) ?_
  (repeat first|refine zG ?_|(refine LS.nilQ ?_;try with_reducible intro nq hnq;try refine zU ?_))
  refine MTW.three (fun b9 b10 b11 => [(3, bl (tb rt)), (4, ptr n 0), (6, ptr (n + 2) 0), (8, ptr (n + 3) 0), (9, ptr b9 0), (10, ptr b10 0), (11, ptr b11 0)]) rfl rfl rfl rfl rfl rfl rfl rfl rfl (by decide) (by decide) rfl rfl rfl (fun b1 b2 b3 e' x1 x2 x3 hx => ?_) ?_
  · refine ⟨(hx 3 (by decide) (by decide) (by decide)).trans rfl, (hx 4 (by decide) (by decide) (by decide)).trans rfl, (hx 6 (by decide) (by decide) (by decide)).trans rfl, (hx 8 (by decide) (by decide) (by decide)).trans rfl, x1, x2, x3, trivial⟩
  intro b9 b10 b11 n2 q9 q10 q11 h9a h9b h10b f9 f10 f11 l9 l10 l11 hn2
  obtain ⟨H4, hH4⟩ : ∃ H4 : Hp, H4 = (n + 3, ⟨Zs.size [(8, SV.int .u8 0)], Zs.c [(8, SV.int .u8 0)], 32⟩) :: (n + 2, ⟨8, bys y, 32⟩) :: (n + 1, ⟨8, bys x, 32⟩) :: (n, ⟨1106, K, 38⟩) :: H := ⟨_, rfl⟩
  refine CS.weak (e1 := [(3, bl (tb rt)), (4, ptr n 0), (6, ptr (n + 2) 0), (8, ptr (n + 3) 0), (9, ptr b9 0), (10, ptr b10 0), (11, ptr b11 0)]) (H1 := (b9, ⟨64, bys M, 34⟩) :: (b10, ⟨8, bys (adk h.p M G (8 * 0)), 32⟩) :: (b11, ⟨522, K, 52⟩) :: H4) (by (repeat first | exact trivial | refine And.intro rfl ?_)) (by rw [hH4]; exact Drops.keepc rfl rfl (fun _ _ => rfl) (Drops.keepc rfl rfl (fun q hq => by rw [show 8 * 0 = 0 from rfl, adk_zero]; rcases (show q = 0 ∨ q = 1 ∨ q = 2 ∨ q = 3 ∨ q = 4 ∨ q = 5 ∨ q = 6 ∨ q = 7 by (try dsimp only at hq); omega) with rfl | rfl | rfl | rfl | rfl | rfl | rfl | rfl <;> rfl) (Drops.keepc rfl rfl (fun _ _ => rfl) (Drops.refl _ _)))) ?_
  have g4 : H4.get n = some ⟨1106, K, 38⟩ := by rw [hH4]; exact zH
  have g6 : H4.get (n + 2) = some ⟨8, bys y, 32⟩ := by rw [hH4]; exact zH
  have g8 : H4.get (n + 3) = some ⟨Zs.size [(8, SV.int .u8 0)], Zs.c [(8, SV.int .u8 0)], 32⟩ := by rw [hH4]; exact Hp.get_eq _ _ _
  have lo4 : ∀ x, x < n → H4.get x = H.get x := fun x hx => by rw [hH4]; simp (disch := omega) only [Hp.get_ne]
  have fr4 : ∀ x, n + 4 ≤ x → H4.get x = none := fun x hx => by rw [hH4]; simp (disch := omega) only [Hp.get_ne]; exact hf x (by omega)
  clear hH4
  (refine zG ?_)
  refine CS.iter a (fun j => [(12, i64 (j : Nat)), (3, bl (tb rt)), (4, ptr n 0), (6, ptr (n + 2) 0), (8, ptr (n + 3) 0), (9, ptr b9 0), (10, ptr b10 0), (11, ptr b11 0)])
    (fun j => (b9, ⟨64, bys M, 34⟩) :: (b10, ⟨8, bys (adk h.p M G (8 * j)), 32⟩) :: (b11, ⟨522, K, 52⟩) :: H4) (fun _ => True) (by (repeat first | exact trivial | refine And.intro rfl ?_)) (Drops.refl _ _) trivial ?_
  intro j n3 hj hn3 _
  (refine zG ?_)
  refine zI ?_ ?_<;>intro h1
  · have hj' : j < a := by omega
    (refine zG ?_)
    refine CS.iter a (fun k => [(13, i64 (k : Nat)), (12, i64 (j : Nat)), (3, bl (tb rt)), (4, ptr n 0), (6, ptr (n + 2) 0), (8, ptr (n + 3) 0), (9, ptr b9 0), (10, ptr b10 0), (11, ptr b11 0)])
      (fun k => (b9, ⟨64, bys M, 34⟩) :: (b10, ⟨8, bys (adk h.p M G (8 * j + k)), 32⟩) :: (b11, ⟨522, K, 52⟩) :: H4) (fun _ => True) (by (repeat first | exact trivial | refine And.intro rfl ?_)) (Drops.refl _ _) trivial ?_
    intro k n4 hk hn4 _
    (refine zG ?_)
    refine zI ?_ ?_<;>intro h2
    · have hk' : k < a := by omega
      have htl : 8 * j + k < 64 := by omega
      have hMt := hMr (8 * j + k) htl
      (refine zG ?_)
      refine zI ?_ ?_<;>intro h3
      · (refine zG ?_)
        have es : ∀ s, 8 * j + k ≤ s → s < 8 * j + (k + 1) → M s = 0 := fun s h1 h2 => by
          obtain rfl : s = 8 * j + k := by omega
          exact h3
        exact ⟨by omega, by (repeat first | exact trivial | refine And.intro rfl ?_), Drops.keepc rfl rfl (fun _ _ => rfl) (Drops.keepc rfl rfl (fun q hq => by rw [adk_more (t := 8 * j + k) (t' := 8 * j + (k + 1)) (by omega) es]) (Drops.refl _ _)), trivial⟩
      (refine zG ?_)
      refine CS.mixtL _ (fun _ _ h => h) ?_
      (repeat first|refine zG ?_|(refine LS.nilQ ?_;try with_reducible intro nq hnq;try refine zU ?_))
      refine LS.callQ (.arr 8 (bys (bas j))) rfl (fun n' hn' => spec_l01Basis j _ _ (by omega)) ?_
      (repeat first|refine zG ?_|(refine LS.nilQ ?_;try with_reducible intro nq hnq;try refine zU ?_))
      refine MTW.two (fun b14 b15 => [(14, ptr b14 0), (15, ptr b15 0), (13, i64 (k : Nat)), (12, i64 (j : Nat)), (3, bl (tb rt)), (4, ptr n 0), (6, ptr (n + 2) 0), (8, ptr (n + 3) 0), (9, ptr b9 0), (10, ptr b10 0), (11, ptr b11 0)]) rfl rfl rfl rfl (by decide) (by decide) rfl rfl (fun b1 b2 => by (repeat first | exact trivial | refine And.intro rfl ?_)) (fun b1 b2 => by (repeat first | exact trivial | refine And.intro rfl ?_)) ?_
      intro b14 b15 n5 q14 q15 hne f14 f15 l14 l15 hn5
      clear f14 f15
      (refine zG ?_)
      refine zI ?_ ?_<;>intro h5
      · have eL : adl h rt (8 * j + k) = fun q => h.s (8 * j + q) := by unfold adl; rw [if_pos (tb_true h5), show (8 * j + k) / 8 = j by omega]
        have eR : adr h rt (8 * j + k) = bas k := by unfold adr; rw [if_pos (tb_true h5), show (8 * j + k) % 8 = k by omega]
        (refine zG ?_)
        refine RS.call rfl ((spec_l01Basis k _ _ (by omega)).mono ?_)
        rintro r H' n7 hn7 ⟨rfl, rfl⟩
        (refine zG ?_)
        refine CS.weak (e1 := [(14, ptr b14 0), (15, ptr b15 0), (13, i64 (k : Nat)), (12, i64 (j : Nat)), (3, bl (tb rt)), (4, ptr n 0), (6, ptr (n + 2) 0), (8, ptr (n + 3) 0), (9, ptr b9 0), (10, ptr b10 0), (11, ptr b11 0)]) (H1 := (b14, ⟨8, bys (adl h rt (8 * j + k)), 32⟩) :: (b15, ⟨8, bys (adr h rt (8 * j + k)), 32⟩) :: (b9, ⟨64, bys M, 34⟩) :: (b10, ⟨8, bys (adk h.p M G (8 * j + k)), 32⟩) :: (b11, ⟨522, K, 52⟩) :: H4) (by (repeat first | exact trivial | refine And.intro rfl ?_)) (Drops.keepc rfl rfl (fun q hq => by rw [eL]) (Drops.keepc rfl rfl (fun q hq => by rw [eR]) (Drops.refl _ _))) ?_
        refine CS.tailLo _ (List.Mem.head _) ?_; dsimp only [List.take, List.drop]
        (refine zG ?_)
        refine LS.callQ (.arr 8 (bys (pr h.p h.m (adl h rt (8 * j + k)) y a))) rfl (fun n' hn' => FnS.args (concs_cons (conc_arr (fun q hq => by first | rfl | (simp only [Nat.zero_add]; done) | (simp only [Nat.zero_add]; rfl))) (concs_cons (conc_arr (fun q hq => by first | rfl | (simp only [Nat.zero_add]; done) | (simp only [Nat.zero_add]; rfl))) (concs_cons (conc_arr (fun q hq => by first | rfl | (simp only [Nat.zero_add]; done) | (simp only [Nat.zero_add]; rfl))) rfl))) (spec_l01Times h.p a h.m (adl h rt (8 * j + k)) y K _ _ hb ha k0 k1 hK.m hB.m (adl_by hB rt htl) hy)) ?_
        (refine zG ?_)
        refine LS.callQ (.arr 8 (bys (G (8 * j + k)))) rfl (fun n' hn' => by rw [hGt]; exact FnS.args (concs_cons (conc_arr (fun q hq => by first | rfl | (simp only [Nat.zero_add]; done) | (simp only [Nat.zero_add]; rfl))) (concs_cons (conc_arr (fun q hq => by first | rfl | (simp only [Nat.zero_add]; done) | (simp only [Nat.zero_add]; rfl))) (concs_cons (conc_arr (fun q hq => by first | rfl | (simp only [Nat.zero_add]; done) | (simp only [Nat.zero_add]; rfl))) rfl))) (spec_l01Times h.p a h.m (pr h.p h.m (adl h rt (8 * j + k)) y a) (adr h rt (8 * j + k)) K _ _ hb ha k0 k1 hK.m hB.m (isRes.by (pr_res hb.1 _ _ _ _ 8) hb.2) (adr_by hB rt htl))) ?_
        (repeat first|refine zG ?_|(refine LS.nilQ ?_;try with_reducible intro nq hnq;try refine zU ?_))
        refine RS.call rfl ((spec_l01Add h.p (M (8 * j + k)) (adk h.p M G (8 * j + k)) (G (8 * j + k)) _ _ hb (isRes.by (adk_res hb.1 _ _ _ 8) hb.2) (isRes.by (by rw [hGt]; exact pr_res hb.1 _ _ _ _ 8) hb.2) (by omega)).mono ?_)
        rintro r H' n6 hn6 ⟨rfl, rfl⟩
        rw [adk_step]
        (refine zG ?_)
        exact ⟨by omega, by (repeat first | exact trivial | refine And.intro rfl ?_), Drops.drop (by omega) (by simp (disch := omega) only [Hp.get_ne]; exact fr4 _ (by omega)) (Drops.drop (by omega) (by simp (disch := omega) only [Hp.get_ne]; exact fr4 _ (by omega)) (Drops.keepc rfl rfl (fun _ _ => rfl) (Drops.keepc rfl rfl (fun q hq => by first | rfl | (unfold splice; rw [if_pos (by omega), Nat.sub_zero]; rfl)) (Drops.refl _ _)))), trivial⟩
      · have eL : adl h rt (8 * j + k) = bas j := by unfold adl; rw [tb_false h5, if_neg (by simp), show (8 * j + k) / 8 = j by omega]
        have eR : adr h rt (8 * j + k) = fun q => h.s (8 * k + q) := by unfold adr; rw [tb_false h5, if_neg (by simp), show (8 * j + k) % 8 = k by omega]
        (refine zG ?_)
        refine CS.weak (e1 := [(14, ptr b14 0), (15, ptr b15 0), (13, i64 (k : Nat)), (12, i64 (j : Nat)), (3, bl (tb rt)), (4, ptr n 0), (6, ptr (n + 2) 0), (8, ptr (n + 3) 0), (9, ptr b9 0), (10, ptr b10 0), (11, ptr b11 0)]) (H1 := (b14, ⟨8, bys (adl h rt (8 * j + k)), 32⟩) :: (b15, ⟨8, bys (adr h rt (8 * j + k)), 32⟩) :: (b9, ⟨64, bys M, 34⟩) :: (b10, ⟨8, bys (adk h.p M G (8 * j + k)), 32⟩) :: (b11, ⟨522, K, 52⟩) :: H4) (by (repeat first | exact trivial | refine And.intro rfl ?_)) (Drops.keepc rfl rfl (fun q hq => by rw [eL]) (Drops.keepc rfl rfl (fun q hq => by rw [eR]) (Drops.refl _ _))) ?_
        refine CS.tailLo _ (List.Mem.head _) ?_; dsimp only [List.take, List.drop]
        (refine zG ?_)
        refine LS.callQ (.arr 8 (bys (pr h.p h.m (adl h rt (8 * j + k)) y a))) rfl (fun n' hn' => FnS.args (concs_cons (conc_arr (fun q hq => by first | rfl | (simp only [Nat.zero_add]; done) | (simp only [Nat.zero_add]; rfl))) (concs_cons (conc_arr (fun q hq => by first | rfl | (simp only [Nat.zero_add]; done) | (simp only [Nat.zero_add]; rfl))) (concs_cons (conc_arr (fun q hq => by first | rfl | (simp only [Nat.zero_add]; done) | (simp only [Nat.zero_add]; rfl))) rfl))) (spec_l01Times h.p a h.m (adl h rt (8 * j + k)) y K _ _ hb ha k0 k1 hK.m hB.m (adl_by hB rt htl) hy)) ?_
        (refine zG ?_)
        refine LS.callQ (.arr 8 (bys (G (8 * j + k)))) rfl (fun n' hn' => by rw [hGt]; exact FnS.args (concs_cons (conc_arr (fun q hq => by first | rfl | (simp only [Nat.zero_add]; done) | (simp only [Nat.zero_add]; rfl))) (concs_cons (conc_arr (fun q hq => by first | rfl | (simp only [Nat.zero_add]; done) | (simp only [Nat.zero_add]; rfl))) (concs_cons (conc_arr (fun q hq => by first | rfl | (simp only [Nat.zero_add]; done) | (simp only [Nat.zero_add]; rfl))) rfl))) (spec_l01Times h.p a h.m (pr h.p h.m (adl h rt (8 * j + k)) y a) (adr h rt (8 * j + k)) K _ _ hb ha k0 k1 hK.m hB.m (isRes.by (pr_res hb.1 _ _ _ _ 8) hb.2) (adr_by hB rt htl))) ?_
        (repeat first|refine zG ?_|(refine LS.nilQ ?_;try with_reducible intro nq hnq;try refine zU ?_))
        refine RS.call rfl ((spec_l01Add h.p (M (8 * j + k)) (adk h.p M G (8 * j + k)) (G (8 * j + k)) _ _ hb (isRes.by (adk_res hb.1 _ _ _ 8) hb.2) (isRes.by (by rw [hGt]; exact pr_res hb.1 _ _ _ _ 8) hb.2) (by omega)).mono ?_)
        rintro r H' n6 hn6 ⟨rfl, rfl⟩
        rw [adk_step]
        (refine zG ?_)
        exact ⟨by omega, by (repeat first | exact trivial | refine And.intro rfl ?_), Drops.drop (by omega) (by simp (disch := omega) only [Hp.get_ne]; exact fr4 _ (by omega)) (Drops.drop (by omega) (by simp (disch := omega) only [Hp.get_ne]; exact fr4 _ (by omega)) (Drops.keepc rfl rfl (fun _ _ => rfl) (Drops.keepc rfl rfl (fun q hq => by first | rfl | (unfold splice; rw [if_pos (by omega), Nat.sub_zero]; rfl)) (Drops.refl _ _)))), trivial⟩
    obtain rfl : a = k := by omega
    (refine zG ?_)
    exact ⟨by omega, by (repeat first | exact trivial | refine And.intro rfl ?_), Drops.keepc rfl rfl (fun _ _ => rfl) (Drops.keepc rfl rfl (fun q hq => by rw [adk_more (t := 8 * j + a) (t' := 8 * (j + 1)) (by omega) (fun s h1 h2 => by rw [show s = 8 * j + (s - 8 * j) by omega]; exact hMz j (s - 8 * j) (by omega) (by omega) (.inr (by omega)))]) (Drops.refl _ _)), trivial⟩
  obtain rfl : a = j := by omega
  (refine zG ?_)
  have e64 : adk h.p M G (8 * a) = adj h a rt x y := by
    rw [adk_more (t := 8 * a) (t' := 64) (by omega) (fun s h1 h2 => by rw [show s = 8 * (s / 8) + s % 8 by omega]; exact hMz (s / 8) (s % 8) (by omega) (by omega) (.inl (by omega))), hM, hG]; rfl
  exact ⟨.arr 8 (bys (adj h a rt x y)), H, conc_arr (fun q hq => by rw [← e64]; first | rfl | (simp only [Nat.zero_add]; unfold splice; rw [if_pos (by omega), Nat.sub_zero]) | (simp only [Nat.zero_add]; done) | (simp only [Nat.zero_add]; rfl)), Drops.low hf (fun x hx => by simp (disch := omega) only [Hp.get_ne, Hp.get_set_other]; exact lo4 x hx), rfl, rfl⟩

end Go.Proofs.YtideblodkkgodaaGreat
