/- Two new blocks, made in either order. -/
import Derived.Test.YtdellpnmbgjofaaVP
namespace Go.V
set_option linter.unusedVariables false
section
variable {P : Program} {N m : Nat} {e : Env} {H : Hp} {n : Nat} {Q : Ex → Env → Hp → Nat → Prop} {c : Cd}
theorem Drops.swap {b1 b2 : Nat} {k1 k2 : Blk} (hb : b1 ≠ b2) : Drops m ((b2, k2) :: (b1, k1) :: H) ((b1, k1) :: (b2, k2) :: H) := by
  intro b
  by_cases e1 : b1 = b
  · subst e1; rw [Hp.get_ne _ _ (fun h => hb h.symm), Hp.get_eq, Hp.get_eq]; exact .inr ⟨_, _, rfl, rfl, rfl, rfl, fun _ _ => rfl⟩
  · by_cases e2 : b2 = b
    · subst e2; rw [Hp.get_eq, Hp.get_ne _ _ e1, Hp.get_eq]; exact .inr ⟨_, _, rfl, rfl, rfl, rfl, fun _ _ => rfl⟩
    · rw [Hp.get_ne _ _ e2, Hp.get_ne _ _ e1, Hp.get_ne _ _ e1, Hp.get_ne _ _ e2]
      exact Drops.refl m H b
theorem MTW.two {F : Hp} {ll : List Ins} {i1 i2 i3 i4 d1 d2 s1 s2 k1 k2 : Nat} {t1 t2 : TypeId} {z1 z2 : Zs} {c1 c2 : Nat → SV} (E : Nat → Nat → Env)
    (h1 : pick [i1, i2, i3, i4] ll = [⟨some d1, none, .new t1 z1⟩, ⟨some d2, none, .new t2 z2⟩, ⟨none, none, .st k1 (.t d1) (.t s1)⟩, ⟨none, none, .st k2 (.t d2) (.t s2)⟩])
    (h2 : pick [i2, i1, i3, i4] ll = [⟨some d2, none, .new t2 z2⟩, ⟨some d1, none, .new t1 z1⟩, ⟨none, none, .st k1 (.t d1) (.t s1)⟩, ⟨none, none, .st k2 (.t d2) (.t s2)⟩])
    (hx1 : e.get s1 = some (.arr k1 c1)) (hx2 : e.get s2 = some (.arr k2 c2)) (hd : d1 ≠ d2) (hs : s1 ≠ d1 ∧ s1 ≠ d2 ∧ s2 ≠ d1 ∧ s2 ≠ d2) (hz1 : z1.size = k1) (hz2 : z2.size = k2)
    (hE1 : ∀ b1 b2, EnvLe (E b1 b2) (putD (some d2) (ptr b2 0) (putD (some d1) (ptr b1 0) e))) (hE2 : ∀ b1 b2, EnvLe (E b1 b2) (putD (some d1) (ptr b1 0) (putD (some d2) (ptr b2 0) e)))
    (h : ∀ b1 b2 n', n ≤ b1 → n ≤ b2 → b1 ≠ b2 → H.get b1 = none → H.get b2 = none → b1 < n' → b2 < n' → n ≤ n' → CS P N m c (E b1 b2) ((b1, ⟨k1, c1, t1⟩) :: (b2, ⟨k2, c2, t2⟩) :: H) n' Q) :
    MTW P N m F n ll (.fork (.seg i1 (.seg i2 (.seg i3 (.seg i4 .done)))) (.seg i2 (.seg i1 (.seg i3 (.seg i4 .done))))) e H
      fun e3 H3 => ∀ n', n ≤ n' → (∀ b k, H3.get b = some k → b < n') → Ex.then (fun e' H' n' => CS P N m c e' H' n' Q) Q .normal e3 H3 n' := by
  obtain ⟨q1, q2, q3, q4⟩ := hs
  have go : ∀ {E' : Env} {H3 : Hp} (b1 b2 : Nat), n ≤ b1 → n ≤ b2 → b1 ≠ b2 → H.get b1 = none → H.get b2 = none → EnvLe (E b1 b2) E' → Drops m H3 ((b1, ⟨k1, c1, t1⟩) :: (b2, ⟨k2, c2, t2⟩) :: H) → (∃ k, H3.get b1 = some k) → (∃ k, H3.get b2 = some k) →
      ∀ n', n ≤ n' → (∀ b k, H3.get b = some k → b < n') → CS P N m c E' H3 n' Q := by
    intro E' H3 b1 b2 a1 a2 a3 a4 a5 a6 a7 a8 a9 n' hn hl
    obtain ⟨x1, a8⟩ := a8
    obtain ⟨x2, a9⟩ := a9
    exact CS.weak a6 a7 (h b1 b2 n' a1 a2 a3 a4 a5 (hl _ _ a8) (hl _ _ a9) hn)
  refine MTW.fork (MTW.seg ?_) (MTW.seg ?_)
  · rw [show OT.os (.seg i1 (.seg i2 (.seg i3 (.seg i4 .done)))) = [i1, i2, i3, i4] from rfl, h1]
    refine MS.new fun b1 hb1 f1 => MS.new fun b2 hb2 f2 => ?_
    have hne : b1 ≠ b2 := by intro q; subst q; rw [Hp.get_eq] at f2; cases f2
    rw [Hp.get_ne _ _ hne] at f2
    refine MS.stx (b := b1) (off := 0) (k := ⟨z1.size, z1.c, t1⟩) (c := c1) (c' := c1) ?_ ?_ (by rw [Hp.get_ne _ _ (fun q => hne q.symm), Hp.get_eq]) (by dsimp only; omega) hb1 (fun i hi => by dsimp only at hi; unfold splice; rw [if_pos (by omega)]; simp) ?_
    · show Env.get ((d2, ptr b2 0) :: (d1, ptr b1 0) :: e) d1 = _
      rw [Env.get_cons, if_neg (fun q => hd q.symm), Env.get_cons, if_pos rfl]
    · show Env.get ((d2, ptr b2 0) :: (d1, ptr b1 0) :: e) s1 = _
      rw [Env.get_cons, if_neg (fun q => q2 q.symm), Env.get_cons, if_neg (fun q => q1 q.symm), hx1]
    refine MS.stx (b := b2) (off := 0) (k := ⟨z2.size, z2.c, t2⟩) (c := c2) (c' := c2) ?_ ?_ (by rw [Hp.get_set_other _ hne, Hp.get_eq]) (by dsimp only; omega) hb2 (fun i hi => by dsimp only at hi; unfold splice; rw [if_pos (by omega)]; simp) ?_
    · show Env.get ((d2, ptr b2 0) :: (d1, ptr b1 0) :: e) d2 = _
      rw [Env.get_cons, if_pos rfl]
    · show Env.get ((d2, ptr b2 0) :: (d1, ptr b1 0) :: e) s2 = _
      rw [Env.get_cons, if_neg (fun q => q4 q.symm), Env.get_cons, if_neg (fun q => q3 q.symm), hx2]
    rw [Hp.set_ne _ _ _ (fun q => hne q.symm), Hp.set_eq, Hp.set_eq]
    subst hz1 hz2
    refine MS.nil (MTW.done ?_)
    exact go b1 b2 hb1 hb2 hne f1 f2 (hE1 b1 b2) (Drops.swap hne) ⟨_, by rw [Hp.get_ne _ _ (fun q => hne q.symm), Hp.get_eq]⟩ ⟨_, Hp.get_eq _ _ _⟩
  · rw [show OT.os (.seg i2 (.seg i1 (.seg i3 (.seg i4 .done)))) = [i2, i1, i3, i4] from rfl, h2]
    refine MS.new fun b2 hb2 f2 => MS.new fun b1 hb1 f1 => ?_
    have hne : b1 ≠ b2 := by intro q; subst q; rw [Hp.get_eq] at f1; cases f1
    rw [Hp.get_ne _ _ (fun q => hne q.symm)] at f1
    refine MS.stx (b := b1) (off := 0) (k := ⟨z1.size, z1.c, t1⟩) (c := c1) (c' := c1) ?_ ?_ (Hp.get_eq _ _ _) (by dsimp only; omega) hb1 (fun i hi => by dsimp only at hi; unfold splice; rw [if_pos (by omega)]; simp) ?_
    · show Env.get ((d1, ptr b1 0) :: (d2, ptr b2 0) :: e) d1 = _
      rw [Env.get_cons, if_pos rfl]
    · show Env.get ((d1, ptr b1 0) :: (d2, ptr b2 0) :: e) s1 = _
      rw [Env.get_cons, if_neg (fun q => q1 q.symm), Env.get_cons, if_neg (fun q => q2 q.symm), hx1]
    refine MS.stx (b := b2) (off := 0) (k := ⟨z2.size, z2.c, t2⟩) (c := c2) (c' := c2) ?_ ?_ (by rw [Hp.get_set_other _ hne, Hp.get_ne _ _ hne, Hp.get_eq]) (by dsimp only; omega) hb2 (fun i hi => by dsimp only at hi; unfold splice; rw [if_pos (by omega)]; simp) ?_
    · show Env.get ((d1, ptr b1 0) :: (d2, ptr b2 0) :: e) d2 = _
      rw [Env.get_cons, if_neg hd, Env.get_cons, if_pos rfl]
    · show Env.get ((d1, ptr b1 0) :: (d2, ptr b2 0) :: e) s2 = _
      rw [Env.get_cons, if_neg (fun q => q3 q.symm), Env.get_cons, if_neg (fun q => q4 q.symm), hx2]
    rw [Hp.set_eq, Hp.set_ne _ _ _ hne, Hp.set_eq]
    subst hz1 hz2
    refine MS.nil (MTW.done ?_)
    exact go b1 b2 hb1 hb2 hne f1 f2 (hE2 b1 b2) (Drops.refl _ _) ⟨_, Hp.get_eq _ _ _⟩ ⟨_, by rw [Hp.get_ne _ _ hne, Hp.get_eq]⟩
end
end Go.V
namespace Go.V
set_option linter.unusedSimpArgs false
set_option linter.unusedVariables false
section
variable {P : Program}
theorem wp_region_ordF {n m : Nat} {eff : Nat → Bool} {K : Act → Hp → Prop} {ops : Array Oper} {id : Nat} {Q : Exit → Act → World → Prop} {a : Act} {w0 w : World} {H F : Hp} {ks : List Nat} (hF : Ext F H) (hm : P.follows .mixedOrders = true) (hs : Region.noSelect ops = true)
    (hB : ordB .any ops eff ks (Array.replicate ops.size false) = true) (hl : ks.length = ops.size)
    (hsz : w0.heap.size ≤ m) (hw : Mem w0 H n w) (hK : ∀ a Hc n' w, K a Hc → n ≤ n' → Mem w0 Hc n' w → Q .normal a w)
    (h : wpO P ops n m eff (fun a Hc _ => K a Hc) ks a H F) : (Code.region id ops true).wp P Q a w := by
  refine wp_region_any hm ?_
  have key := ord_walk (md := .any) hs ks (Array.replicate ops.size false) a H F hB h
  rw [hl] at key
  exact wpAny_of_ord (w0 := w0) hsz hK _ _ _ H F n _ (Nat.le_refl _) hF (hw.drew _) key
theorem Ext.nil (H : Hp) : Ext [] H := fun b k h => absurd h (by simp [Hp.get])
/-- Operations that read no memory at any time, the others one after the other, whatever they do. -/
def OE (P : Program) (N m : Nat) (l : List Ins) (e : Env) (H : Hp) (n : Nat) (K : Env → Hp → Prop) : Prop :=
  ∀ (ops : Array Oper) (ks : List Nat) (eff : Nat → Bool), OMatch P N ops eff isCall ks l → ∀ (a : Act) (Ka : Act → Hp → Hp → Prop), Ag N e a →
    (∀ e' a' H', K e' H' → Ag N e' a' → Ka a' H' []) → wpO P ops n m eff Ka ks a H []
theorem OE.nil {N m : Nat} {e : Env} {H : Hp} {n : Nat} {K : Env → Hp → Prop} (h : K e H) : OE P N m [] e H n K := by
  intro ops ks eff hm a Ka hag hK
  cases ks with
  | nil => exact hK _ _ _ h hag
  | cons k ks => exact hm.elim
theorem OE.pure {N m : Nat} {d : Option Nat} {i : I} {l : List Ins} {e : Env} {H : Hp} {n : Nat} {K : Env → Hp → Prop}
    (h : PV i e [] fun v => OE P N m l (putD d v e) H n K) : OE P N m (⟨d, none, i⟩ :: l) e H n K := by
  intro ops ks eff hm a Ka hag hK
  cases ks with
  | nil => exact hm.elim
  | cons k ks =>
    obtain ⟨⟨o, ho, htr, hef⟩, hm2⟩ := hm
    obtain ⟨h1, h2, h3, h4⟩ := trOp_spec htr
    obtain ⟨v, hv, hrun⟩ := pv_sound hag h1 h
    unfold wpO kOpO
    simp only [ho]
    rw [if_pos (wanted_none h4), if_neg (by rw [hef, PV_pure h]; simp)]
    refine ⟨v.conc, fun w0 w ⟨n', hn, hw⟩ => ?_, hv ops ks eff hm2 _ Ka (by rw [h2]; exact hag.putD h3 v) hK⟩
    unfold Oper.quietAt
    rw [hrun _ _ _ hw]
    exact ⟨rfl, rfl⟩
theorem OE.call {N m : Nat} {d : Option Nat} {f : FuncId} {args : List X} {l : List Ins} {e : Env} {H : Hp} {n : Nat} {K : Env → Hp → Prop} {vs : List AV} {R : AV → Hp → Prop}
    (hv : evs e args = some vs) (hf : ∀ n', n ≤ n' → (∀ b k, H.get b = some k → b < n') → FnS P f vs H n' fun r H' n'' => R r H')
    (h : ∀ r H', R r H' → OE P N m l (putD d r e) H' n K) : OE P N m (⟨d, none, .call f args⟩ :: l) e H n K := by
  intro ops ks eff hm a Ka hag hK
  cases ks with
  | nil => exact hm.elim
  | cons k ks =>
    obtain ⟨⟨o, ho, htr, hef⟩, hm2⟩ := hm
    obtain ⟨h1, h2, h3, h4⟩ := trOp_spec htr
    unfold wpO kOpO
    simp only [ho]
    rw [if_pos (wanted_none h4), if_pos (by rw [hef]; rfl)]
    intro w0 w n' q1 q2 q3
    obtain ⟨dst, op, ty, pos, after, guard⟩ := o
    dsimp only at h1 h2 h3
    obtain ⟨c, rfl, hcal, hargs⟩ := inv_call h1
    have e1 := evs_spec hag _ _ _ hargs hv
    have e1' : c.args.map a.eval = (AV.concs vs).toArray := Array.toList_inj.1 (by rw [Array.toList_map]; exact e1)
    refine .inr ⟨f, (AV.concs vs).toArray, ?_, ((hf n' q1 fun b k hb => q3.lt hb).2 w0 w q3).mono ?_⟩
    · simp [execOp, resolve, hcal, Act.eval, Deferred.ofValue, invoke, run_callFunc (hf n' q1 fun b k hb => q3.lt hb).1, e1']
    · rintro e' w' ⟨r, H', n2, rfl, hn2, hm', hR⟩
      exact ⟨r.conc, H', [], n2, rfl, hn2, hm', Ext.refl _, Ext.nil _, h r H' hR ops ks eff hm2 _ Ka (by rw [h2]; exact hag.putD h3 r) hK⟩
theorem OE.cpy {N m : Nat} {d : Option Nat} {l : List Ins} {e : Env} {H : Hp} {n : Nat} {K : Env → Hp → Prop} {sz : Nat} {x y : X} {v : SV} {b o dlen cap len2 cap2 : Nat} {k : Blk} {c2 : Nat → SV}
    (hx : x.ev e = some (.s (.slc b o dlen cap))) (hy : y.ev e = some (.s v)) (hb : H.get b = some k) (hk : o + dlen * sz ≤ k.size) (hv : sliceV H sz v len2 cap2 c2)
    (h : OE P N m l (putD d (.s (.int .i64 (min len2 dlen : Nat))) e) (H.set b (splice k.c o (min len2 dlen * sz) c2)) n K) : OE P N m (⟨d, none, .cpy sz x y⟩ :: l) e H n K := by
  intro ops ks eff hm a Ka hag hK
  cases ks with
  | nil => exact hm.elim
  | cons k ks =>
    obtain ⟨⟨o, ho, htr, hef⟩, hm2⟩ := hm
    obtain ⟨h1, h2, h3, h4⟩ := trOp_spec htr
    unfold wpO kOpO
    simp only [ho]
    rw [if_pos (wanted_none h4), if_pos (by rw [hef]; rfl)]
    intro w0 w n' q1 q2 q3
    obtain ⟨vv, H', n2, w', hrun, hn2, hm', u, rfl, hk2⟩ := run_cpy (K := fun e' H' _ => OE P N m l e' H' n K) hx hy hb hk hv h o h1 w0 w a q3 hag
    exact .inl ⟨_, w', H', [], n2, .inl hrun, hn2, hm', Ext.refl _, Ext.nil _, hk2 ops ks eff hm2 _ Ka (by rw [h2]; exact hag.putD h3 u) hK⟩
theorem CS.ordE {N m : Nat} {q : Bool} {ks os : List Nat} {l : List Ins} {e : Env} {H : Hp} {n : Nat} {Q : Ex → Env → Hp → Nat → Prop}
    (h : OE P N m (pick os l) e H n fun e2 H2 => ∀ n', n ≤ n' → (∀ b k, H2.get b = some k → b < n') → Q .normal e2 H2 n') : CS P N m (.drwo q ks os l) e H n Q := by
  intro code hc w0 w a Q' hm hw hag hQ
  obtain ⟨id, ops, rfl, hl, hf, hq, hks, hB⟩ := inv_drwo hc
  simp only [ordOk, Bool.and_eq_true, decide_eq_true_eq] at hB
  obtain ⟨⟨⟨h1, h2⟩, h3⟩, h4⟩ := hB
  have hos : ∀ k ∈ os, k < ops.size := fun k hk => by simpa only [decide_eq_true_eq] using List.all_eq_true.1 h4 k hk
  refine wp_region_ordF (F := []) (K := fun a Hc => ∃ e2, Ag N e2 a ∧ ∀ n', n ≤ n' → (∀ b k, Hc.get b = some k → b < n') → Q .normal e2 Hc n') (Ext.nil _) hf h1 h2 h3 hm hw
    (fun a Hc n' w ⟨e2, hag2, hk⟩ hn hw' => hQ .normal e2 Hc n' a w (hk n' hn fun b k hb => hw'.lt hb) hn hag2 hw') ?_
  exact h ops os (effL l) (omatch_of hl os hos) a _ hag fun e2 a2 H2 hk2 hag2 => ⟨e2, hag2, hk2⟩
end
end Go.V
