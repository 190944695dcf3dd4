/- Systems of linear equations, the program's: solving them. -/
import Derived.Test.YtgnphaopeplfbaaGreatDoorJax
import Derived.Test.YtgnphaopeplfbaaGreatDoorJav
set_option linter.unusedSectionVars false
set_option linter.unusedVariables false
set_option linter.unusedSimpArgs false

namespace Go.V

variable [BW]

set_option linter.unusedSimpArgs false

set_option linter.unusedVariables false

/-- What the loop over the places knows: H0, n0 are the memory and the bound at the call, n0 is the box of the pointer, b4 the cell of the place. -/
structure SLV (J : (Nat → Nat → Int) → Prop) (H0 : Hp) (n0 sb rb : Nat) (ty : TypeId) (p : Int) (a m : Nat) (bk0 : Nat → Nat) (c d : Nat) (R : Nat → Nat → Int) (pl bk cp : Nat → Nat) (ks : Blk) (pb b4 : Nat) (H1 : Hp) (n1 : Nat) : Prop where
  sy : SY H1 sb p a m R rb bk cp ks
  pls : SL H1 (ks.c 4) d (fun k => .int .i64 (pl k : Nat)) pb
  rf : RF p R m a pl d c
  eqv : J R
  ca : c ≤ a
  g1 : H1.get n0 = some ⟨1, fun _ => .ptr sb 0, ty⟩
  g4 : ∃ k4, H1.get b4 = some k4 ∧ k4.size = 1 ∧ k4.c 0 = .int .i64 (c : Nat)
  b4n : n0 < b4 ∧ b4 < n1
  pbn : n0 ≤ pb ∧ pb < n1 ∧ pb ≠ b4
  pb0 : pb = n0 → ks.c 4 = .nils
  prm : ∀ k, k < m → ∃ j, j < m ∧ bk k = bk0 j
  low : ∀ x, x < n0 → x ≠ sb → x ≠ rb → (∀ k, k < m → x ≠ bk0 k) → H1.get x = H0.get x
  fresh : ∀ x, n1 ≤ x → H1.get x = none

theorem Hp.ne_of {H : Hp} {x b : Nat} {k : Blk} (hx : H.get x = some k) (hb : H.get b = none) : b ≠ x := fun q => by rw [q, hx] at hb; cases hb

theorem SY.push {H : Hp} {sb : Nat} {p : Int} {a m : Nat} {R : Nat → Nat → Int} {rb : Nat} {bk cp : Nat → Nat} {ks k5 : Blk} {b5 : Nat} (h : SY H sb p a m R rb bk cp ks) (h5 : H.get b5 = none) : SY ((b5, k5) :: H) sb p a m R rb bk cp ks := by
  refine { h with g := by rw [Hp.get_ne _ _ (Hp.ne_of h.g h5)]; exact h.g, rows := ?_, row := fun i hi => ?_ }
  · rcases h.rows with h1 | ⟨o, cap, k, h1, h2, h3⟩
    · exact .inl h1
    · exact .inr ⟨o, cap, k, h1, by rw [Hp.get_ne _ _ (Hp.ne_of h2 h5)]; exact h2, h3⟩
  · obtain ⟨ki, gi, si⟩ := h.row i hi
    exact ⟨ki, by rw [Hp.get_ne _ _ (Hp.ne_of gi h5)]; exact gi, si⟩

theorem SL.push {H : Hp} {v : SV} {m : Nat} {F : Nat → SV} {b b5 : Nat} {k5 : Blk} (h : SL H v m F b) (h5 : H.get b5 = none) : SL ((b5, k5) :: H) v m F b := by
  rcases h with h1 | ⟨o, cap, k, h1, h2, h3⟩
  · exact .inl h1
  · exact .inr ⟨o, cap, k, h1, by rw [Hp.get_ne _ _ (Hp.ne_of h2 h5)]; exact h2, h3⟩

theorem SLV.cell {H0 H1 : Hp} {n0 sb rb a m c c' d pb b4 n1 b5 n2 : Nat} {ty : TypeId} {p : Int} {J : (Nat → Nat → Int) → Prop} {R : Nat → Nat → Int} {bk0 pl bk cp : Nat → Nat} {ks k5 : Blk} (h : SLV J H0 n0 sb rb ty p a m bk0 c d R pl bk cp ks pb b4 H1 n1)
    (hc : c' ≤ a) (hr : RF p R m a pl d c') (h5 : n1 ≤ b5) (h52 : b5 < n2) (hs : k5.size = 1) (hk : k5.c 0 = .int .i64 (c' : Nat)) : SLV J H0 n0 sb rb ty p a m bk0 c' d R pl bk cp ks pb b5 ((b5, k5) :: H1) n2 := by
  have hb4 := h.b4n
  have hpb := h.pbn
  have hf5 := h.fresh b5 h5
  exact { sy := h.sy.push hf5, pls := h.pls.push hf5, rf := hr, eqv := h.eqv, ca := hc, g1 := by rw [Hp.get_ne _ _ (by omega)]; exact h.g1, g4 := ⟨k5, Hp.get_eq _ _ _, hs, hk⟩, b4n := ⟨by omega, h52⟩, pbn := ⟨hpb.1, by omega, by omega⟩, pb0 := h.pb0, prm := h.prm, low := fun x q1 q2 q3 q4 => by rw [Hp.get_ne _ _ (by omega)]; exact h.low x q1 q2 q3 q4, fresh := fun x hx => by rw [Hp.get_ne _ _ (by omega)]; exact h.fresh x (by omega) }

/-- Another cell of the system's block has changed. -/
theorem SY.cellc {H H' : Hp} {sb : Nat} {p : Int} {a m n : Nat} {R : Nat → Nat → Int} {rb : Nat} {bk cp : Nat → Nat} {ks : Blk} {v : SV} (h : SY H sb p a m R rb bk cp ks) (hrb : rb < n) (hbk : ∀ j, j < m → bk j < n)
    (hg : H'.get sb = some ⟨ks.size, put1 ks.c 4 v, ks.ty⟩) (hl : ∀ z, z < n → z ≠ sb → H'.get z = H.get z) : SY H' sb p a m R rb bk cp ⟨ks.size, put1 ks.c 4 v, ks.ty⟩ := by
  refine { h with g := hg, rows := h.rows.keep (hl rb hrb h.d1.symm), row := fun i hi => ?_ }
  obtain ⟨ki, gi, si⟩ := h.row i hi
  exact ⟨ki, by rw [hl _ (hbk i hi) (h.d2 i hi).1]; exact gi, si⟩

theorem SLV.le {H0 H1 : Hp} {n0 sb rb a m c d pb b4 n1 n2 : Nat} {ty : TypeId} {p : Int} {J : (Nat → Nat → Int) → Prop} {R : Nat → Nat → Int} {bk0 pl bk cp : Nat → Nat} {ks : Blk} (h : SLV J H0 n0 sb rb ty p a m bk0 c d R pl bk cp ks pb b4 H1 n1) (hn : n1 ≤ n2) : SLV J H0 n0 sb rb ty p a m bk0 c d R pl bk cp ks pb b4 H1 n2 :=
  { h with b4n := ⟨h.b4n.1, by have := h.b4n; omega⟩, pbn := ⟨h.pbn.1, by have := h.pbn; omega, h.pbn.2.2⟩, fresh := fun x hx => h.fresh x (by omega) }

/-- Two numbers changed for each other. -/
def xch (x y k : Nat) : Nat := if k = x then y else if k = y then x else k

theorem xch_lt {x y k m : Nat} (hx : x < m) (hy : y < m) (hk : k < m) : xch x y k < m := by unfold xch; split <;> (try split) <;> omega

theorem xch_xch (x y k : Nat) : xch x y (xch x y k) = k := by
  unfold xch
  by_cases e1 : k = x
  · rw [if_pos e1]
    by_cases e2 : y = x
    · rw [if_pos e2]; omega
    · rw [if_neg e2, if_pos rfl]; omega
  · rw [if_neg e1]
    by_cases e2 : k = y
    · rw [if_pos e2, if_pos rfl]; omega
    · rw [if_neg e2, if_neg e1, if_neg e2]

theorem swp_xch (R : Nat → Nat → Int) (x y k : Nat) : swp R x y k = R (xch x y k) := by
  unfold swp xch
  by_cases e1 : k = x
  · rw [if_pos e1, if_pos e1]
  · rw [if_neg e1, if_neg e1]
    by_cases e2 : k = y
    · rw [if_pos e2, if_pos e2]
    · rw [if_neg e2, if_neg e2]

/-- Two rows changed for each other. -/
theorem SY.swap {H H' : Hp} {sb : Nat} {p : Int} {a m : Nat} {R : Nat → Nat → Int} {rb : Nat} {bk cp : Nat → Nat} {ks : Blk} {ro rcap : Nat} {rk' : Blk} {x y : Nat} (h : SY H sb p a m R rb bk cp ks) (h3 : ks.c 3 = .slc rb ro m rcap) (hx : x < m) (hy : y < m) (hmc : m ≤ rcap)
    (hg : H'.get rb = some rk') (hs : ro + rcap ≤ rk'.size) (hc : ∀ k, k < m → rk'.c (ro + k) = .slc (bk (xch x y k)) 0 (a + 1) (cp (bk (xch x y k)))) (hl : ∀ z, z ≠ rb → H'.get z = H.get z) :
    SY H' sb p a m (swp R x y) rb (fun k => bk (xch x y k)) cp ks := by
  refine { h with g := by rw [hl sb h.d1]; exact h.g, rows := .inr ⟨ro, rcap, rk', h3, hg, hs, hmc, hc⟩, row := fun i hi => ?_, qc := fun i hi => h.qc _ (xch_lt hx hy hi), d2 := fun i hi => h.d2 _ (xch_lt hx hy hi), d3 := fun i j hi hj he => ?_ }
  · obtain ⟨ki, gi, si⟩ := h.row _ (xch_lt hx hy hi)
    exact ⟨ki, by rw [hl _ (h.d2 _ (xch_lt hx hy hi)).2]; exact gi, by rw [swp_xch]; exact si⟩
  · have := h.d3 _ _ (xch_lt hx hy hi) (xch_lt hx hy hj) he
    rw [← xch_xch x y i, this, xch_xch]

theorem Ext.one {H : Hp} {b : Nat} {k : Blk} (h : H.get b = some k) : Ext [(b, k)] H := fun b' k' hb' => by
  by_cases e : b = b'
  · subst e
    rw [Hp.get_eq] at hb'
    cases hb'
    exact h
  · rw [Hp.get_ne _ _ e] at hb'
    exact absurd hb' (by simp [Hp.get])

section

variable {P : Program} {N mm m : Nat} {e : Env} {H : Hp} {n : Nat} {l : List Ins} {d : Option Nat} {Q : Ex → Env → Hp → Nat → Prop}

/-- A loop that is left by one exit: T is what is known there. -/
theorem CS.loopX {c : Cd} (J : Nat → Env → Hp → Nat → Prop) (T : Env → Hp → Nat → Prop) (id k : Nat) (h0 : J k e H n)
    (h : ∀ k e H n', n ≤ n' → J k e H n' → CS P N mm c e H n' (Ex.then (fun e' H' n'' => ∃ k' e1 H1, k' < k ∧ EnvLe e1 e' ∧ Drops mm H' H1 ∧ J k' e1 H1 n'') (fun x e' H' n'' => x = .exit id ∧ T e' H' n'')))
    (hT : ∀ e' H' n', n ≤ n' → T e' H' n' → Q (.exit id) e' H' n') : CS P N mm (.loop c) e H n Q := by
  refine CS.loop J k h0 (fun k e H n' hn hJ => (h k e H n' hn hJ).mono fun x e' H' n'' hn' hx => ?_)
  cases x with
  | normal => exact hx
  | exit i =>
    obtain ⟨h1, h2⟩ := hx
    cases h1
    exact hT _ _ _ (by omega) h2
  | ret => cases hx.1

/-- One cell stored into a block that nothing quiet reads. -/
theorem MS.st1f {F Hc : Hp} {x y : X} {K : Env → Hp → Prop} {b off : Nat} {k : Blk} {v : SV} {H1 : Hp}
    (hx : x.ev e = some (.s (.ptr b off))) (hy : y.ev e = some (.s v)) (hb : Hc.get b = some k) (ho : off < k.size) (hnb : F.get b = none) (hs : Hc.set b (put1 k.c off v) = H1)
    (h : MS P N m F n l e H1 K) : MS P N m F n (⟨none, none, .st 1 x y⟩ :: l) e Hc K := by
  subst hs
  intro ops l' hl a Ka hag he hf hK
  obtain ⟨o, r, rfl, ho', hr⟩ := mapM_cons_inv hl
  obtain ⟨h1, h2, h3, h4⟩ := trOp_spec ho'
  dsimp only at h1 h2 h3 h4
  refine ⟨h4, fun w0 w n' q1 q2 q3 => ?_⟩
  have hgn : gentle P o = true → Ext Hc (Hc.set b (put1 k.c off v)) := fun hg => by rw [gentle_of h1] at hg; cases hg
  obtain ⟨dst, op, ty, pos, after, guard⟩ := o
  dsimp only at h1 h2 h3 h4
  subst h2
  obtain ⟨t, x0, y0, rfl, hs, hx0, hy0⟩ := inv_st h1
  have e1 := trX_eval hag hx0 hx
  have e2 := trX_eval hag hy0 hy
  simp only [sizeT, Option.map_eq_some_iff] at hs
  obtain ⟨ti, hti, hz1⟩ := hs
  have hz : (sizeOf t).run P w = .ok ti.size w := by simp [sizeOf, typeInfo, hti]
  have hE : Ext F (Hc.set b (put1 k.c off v)) := fun b' k' hb' => by
    have hne : b ≠ b' := by intro e3; subst e3; rw [hnb] at hb'; cases hb'
    rw [Hp.get_set_other _ hne]; exact he b' k' hb'
  have hsz : (a.eval y0).cells.size = ti.size := by rw [e2, hz1]; simp [AV.conc, SV.cells]
  have hrun : ∃ w', (storeCells ⟨b, off, none⟩ (a.eval y0).cells.toList).run P w = .ok () w' ∧ Mem w0 (Hc.set b (put1 k.c off v)) n' w' := by
    refine ⟨_, ?_, q3.setCell (x := v) hb ho⟩
    rw [e2]
    simp only [AV.conc, SV.cells]
    unfold storeCells
    rw [addr_add, Sem.run_bind, Nat.add_zero, run_store q3 hb ho]
    simp [storeCells]
  obtain ⟨w', hr1, hm1⟩ := hrun
  refine ⟨undef, w', _, n', .inr ⟨?_, rfl⟩, Nat.le_refl _, hm1, hE, hgn, h ops r hr _ Ka hag hE hf hK⟩
  simp [execOp, Instr.storeAt, e1, AV.conc, SV.conc, Instr.sureAddr, storeVar, hz, hsz, hr1]

theorem MS.isl {F Hc : Hp} {x i : X} {K : Env → Hp → Prop} {sz b o j len cp : Nat} {k : IntKind} {q : Int} (hx : x.ev e = some (.s (.slc b o len cp))) (hi : i.ev e = some (.s (.int k q))) (hj : q = (j : Int)) (hl : j < len)
    (h : MS P N m F n l (putD d (.s (.ptr b (o + j * sz))) e) Hc K) : MS P N m F n (⟨d, none, .isl sz x i⟩ :: l) e Hc K :=
  MS.pv (by subst hj; simp only [PV, hx, hi]; exact ⟨⟨by omega, by omega⟩, h⟩)

theorem MS.ck {F Hc : Hp} {x : X} {K : Env → Hp → Prop} {b o : Nat} (hx : x.ev e = some (.s (.ptr b o))) (h : MS P N m F n l (putD d (.s (.ptr b o)) e) Hc K) : MS P N m F n (⟨d, none, .ck x⟩ :: l) e Hc K :=
  MS.pv (by simp only [PV, hx]; exact h)

theorem MS.fa {F Hc : Hp} {x : X} {K : Env → Hp → Prop} {b o off : Nat} (hx : x.ev e = some (.s (.ptr b o))) (h : MS P N m F n l (putD d (.s (.ptr b (o + off))) e) Hc K) : MS P N m F n (⟨d, none, .fa off x⟩ :: l) e Hc K :=
  MS.pv (by simp only [PV, hx]; exact h)

/-- One more cell in a slice whose block nothing quiet reads. -/
theorem MS.appS {t : TypeId} {bytes : Nat} {F Hc : Hp} {x y : X} {v w : SV} {k b b2 : Nat} {G : Nat → SV} {k2 : Blk} {z : Zs} {K : Env → Hp → Prop}
    (hx : x.ev e = some (.s v)) (hy : y.ev e = some (.s (.slc b2 0 1 1))) (hV : SL Hc v k G b) (hb2 : Hc.get b2 = some k2) (hs2 : k2.size = 1) (hc2 : k2.c 0 = w) (hk : k ≤ 4000000) (hby : bytes ≤ 1000000) (hF : v = .nils ∨ F.get b = none)
    (h : ∀ v' b' Hc' kk, SL Hc' v' (k + 1) (snS G k w) b' → (b' = b ∧ v ≠ .nils ∨ n ≤ b' ∧ Hc.get b' = none) → Hc'.get b' = some kk → (∀ x, x ≠ b' → Hc'.get x = Hc.get x) → MS P N m F n l (putD d (.s v') e) Hc' K) :
    MS P N m F n (⟨d, none, .app t 1 bytes z x y⟩ :: l) e Hc K := by
  intro ops l' hl a Ka hag he hf hK
  obtain ⟨o, r, rfl, ho', hr⟩ := mapM_cons_inv hl
  obtain ⟨h1, h2, h3, h4⟩ := trOp_spec ho'
  dsimp only at h1 h2 h3 h4
  refine ⟨h4, fun w0 w1 n' q1 q2 q3 => ?_⟩
  have hy2 : sliceV Hc 1 (.slc b2 0 1 1) 1 1 (fun _ => w) := .inr ⟨b2, 0, k2, rfl, hb2, by omega, Nat.le_refl _, fun i hi => by (obtain rfl : i = 0 := by omega); exact hc2⟩
  have hby2 : (2 * (k + 1) + 768) * bytes ≤ 2 ^ 48 := Nat.le_trans (Nat.mul_le_mul (show 2 * (k + 1) + 768 ≤ 9000000 by omega) hby) (by decide)
  have hfr : Hc.get n' = none := q3.fresh (Nat.le_refl _)
  have new : ∀ (c : Nat → SV), (∀ i, i < k → c i = G i) → ∀ cap', k + 1 ≤ cap' → Ext F ((n', ⟨cap' * 1, joinC ((k + 1) * 1) (joinC (k * 1) c (fun _ => w)) (fun i => z.c (i % 1)), t⟩) :: Hc) ∧ MS P N m F n l (putD d (.s (.slc n' 0 (k + 1) cap')) e) ((n', ⟨cap' * 1, joinC ((k + 1) * 1) (joinC (k * 1) c (fun _ => w)) (fun i => z.c (i % 1)), t⟩) :: Hc) K := by
    intro c hc cap' hcap
    refine ⟨fun b' k' hb' => ?_, h _ n' _ _ (.inr ⟨0, cap', _, rfl, Hp.get_eq _ _ _, by (try dsimp only); omega, hcap, fun i hi => ?_⟩) (.inr ⟨q1, hfr⟩) (Hp.get_eq _ _ _) (fun x hx => Hp.get_ne _ _ (fun q => hx q.symm))⟩
    · have hne : n' ≠ b' := by intro e1; subst e1; rw [hf _ q1] at hb'; cases hb'
      rw [Hp.get_ne _ _ hne]; exact he b' k' hb'
    · (try dsimp only)
      unfold joinC snS
      rw [Nat.zero_add, if_pos (by omega)]
      by_cases e1 : i = k
      · rw [if_neg (by omega), if_pos e1]
      · rw [if_pos (by omega), if_neg e1, hc i (by omega)]
  have fin : ∃ vv H' n2 w', (execOp a.eval o).run P w1 = .ok (.value vv) w' ∧ n' ≤ n2 ∧ Mem w0 H' n2 w' ∧ ∃ u : AV, vv = u.conc ∧ (fun e' H' _ => Ext F H' ∧ MS P N m F n l e' H' K) (putD d u e) H' n2 := by
    rcases hV with ⟨rfl, rfl⟩ | ⟨o1, cap, k1, rfl, hk1, ho, hmc, hc⟩
    · exact run_app (K := fun e' H' _ => Ext F H' ∧ MS P N m F n l e' H' K) (len := 0) (cap := 0) (len2 := 1) (cap2 := 1) (c := G) (c2 := fun _ => w) hx hy (.inl ⟨rfl, rfl, rfl⟩) hy2 hby2 (by omega) (fun hle => by omega) (fun hlt cap' hcap => new G (fun i hi => rfl) cap' hcap) o h1 w0 w1 a q3 hag
    · refine run_app (K := fun e' H' _ => Ext F H' ∧ MS P N m F n l e' H' K) (len2 := 1) (cap2 := 1) (c := G) (c2 := fun _ => w) hx hy (.inr ⟨b, o1, k1, rfl, hk1, by omega, hmc, fun i hi => hc i (by omega)⟩) hy2 hby2 (by omega) (fun hle => ⟨fun b' o' k' hee hk' => ?_, fun hee => by cases hee⟩) (fun hlt cap' hcap => new G (fun i hi => rfl) cap' hcap) o h1 w0 w1 a q3 hag
      cases hee
      rw [hk1] at hk'
      cases hk'
      have hFb : F.get b = none := hF.resolve_left (by intro q; cases q)
      refine ⟨fun b' k' hb' => ?_, h _ b _ _ (.inr ⟨o1, cap, _, rfl, Hp.get_set_self _ hk1, ho, hle, fun i hi => ?_⟩) (.inl ⟨rfl, by intro q; cases q⟩) (Hp.get_set_self _ hk1) (fun x hx => Hp.get_set_other _ (fun q => hx q.symm))⟩
      · have hne : b ≠ b' := by intro e3; subst e3; rw [hFb] at hb'; cases hb'
        rw [Hp.get_set_other _ hne]; exact he b' k' hb'
      · (try dsimp only)
        unfold splice snS
        by_cases e1 : i = k
        · rw [if_pos (by omega), if_pos e1]
        · rw [if_neg (by omega), if_neg e1, hc i (by omega)]
  obtain ⟨vv, H', n2, w', hrun, hn2, hm', u, rfl, hE, hms⟩ := fin
  exact ⟨_, w', H', n2, .inl hrun, hn2, hm', hE, (fun hg => by rw [gentle_of h1] at hg; cases hg), hms ops r hr _ Ka (by rw [h2]; exact hag.putD h3 u) hE hf hK⟩

end

end Go.V

namespace Go.Proofs.YtgnphaopeplfbaaGreatDoor

open Go.V

variable [BW]

set_option linter.unusedSimpArgs false

set_option linter.unusedVariables false

set_option maxHeartbeats 4000000

/-- (*impl.system).solve -/
def ir42 : Cd := (.seq (.reg [⟨some 1,none,.box 77 (.t 0)⟩,⟨some 2,none,.mov (.c (.bool false))⟩]) (.seq (.reg [⟨some 3,none,.mov (.c (.int .i64 0))⟩]) (.seq (.reg [⟨some 7,none,.ld none (.t 1)⟩,⟨some 8,none,.ck (.t 7)⟩,⟨some 9,none,.fa 4 (.t 8)⟩,⟨none,none,.st 1 (.t 9) (.c .nils)⟩]) (.seq (.seq (.reg [⟨some 4,none,.new 3 [(1,(.int .i64 0))]⟩,⟨none,none,.st 1 (.t 4) (.c (.int .i64 0))⟩]) (.block 0 (.loop (.seq (.seq (.drw true [] [⟨some 10,none,.ld none (.t 4)⟩,⟨some 11,none,.ld none (.t 1)⟩,⟨some 12,none,.ck (.t 11)⟩,⟨some 13,none,.fa 2 (.t 12)⟩,⟨some 14,none,.ld none (.t 13)⟩,⟨some 15,none,.bin .lss (.t 10) (.t 14)⟩,⟨some 16,none,.mov (.t 15)⟩,⟨some 17,(some (16,true)),.mov (.t 3)⟩,⟨some 18,(some (16,true)),.ld none (.t 1)⟩,⟨some 19,(some (16,true)),.ck (.t 18)⟩,⟨some 20,(some (16,true)),.fa 3 (.t 19)⟩,⟨some 21,(some (16,true)),.ld none (.t 20)⟩,⟨some 22,(some (16,true)),.len (.t 21)⟩,⟨some 23,(some (16,true)),.bin .lss (.t 17) (.t 22)⟩,⟨some 24,none,.pick (.t 16) (.t 23) (.c (.bool false))⟩]) (.cond (.t 24) .skip (.exit 0))) (.seq (.block 1 (.seq (.reg [⟨some 27,none,.ld none (.t 1)⟩,⟨some 28,none,.ck (.t 27)⟩,⟨some 29,none,.fa 3 (.t 28)⟩,⟨some 30,none,.ld none (.t 29)⟩,⟨some 31,none,.mov (.t 3)⟩,⟨some 32,none,.sls 1 (.t 30) (some (.t 31)) none none⟩,⟨some 33,none,.mkf 77 [] [(.t 4)]⟩,⟨some 34,none,.call 76 [(.t 32),(.t 33)]⟩,⟨some 5,none,.mov (.t 34)⟩]) (.seq (.seq (.reg [⟨some 35,none,.mov (.t 5)⟩,⟨some 36,none,.bin .lss (.t 35) (.c (.int .i64 0))⟩]) (.cond (.t 36) (.exit 1) .skip)) (.seq (.mixt [⟨some 37,none,.ld none (.t 1)⟩,⟨some 38,none,.ck (.t 37)⟩,⟨some 39,none,.fa 3 (.t 38)⟩,⟨some 40,none,.ld none (.t 39)⟩,⟨some 41,none,.mov (.t 3)⟩,⟨some 42,none,.ld none (.t 1)⟩,⟨some 43,none,.ck (.t 42)⟩,⟨some 44,none,.fa 3 (.t 43)⟩,⟨some 45,none,.ld none (.t 44)⟩,⟨some 49,none,.ld none (.t 1)⟩,⟨some 50,none,.ck (.t 49)⟩,⟨some 51,none,.fa 3 (.t 50)⟩,⟨some 52,none,.ld none (.t 51)⟩,⟨some 53,none,.mov (.t 3)⟩,⟨some 54,none,.mov (.t 5)⟩,⟨some 55,none,.bin .add (.t 53) (.t 54)⟩,⟨some 56,none,.isl 1 (.t 52) (.t 55)⟩,⟨some 57,none,.ld none (.t 56)⟩,⟨some 58,none,.ld none (.t 1)⟩,⟨some 59,none,.ck (.t 58)⟩,⟨some 60,none,.fa 3 (.t 59)⟩,⟨some 61,none,.ld none (.t 60)⟩,⟨some 62,none,.mov (.t 3)⟩,⟨some 63,none,.isl 1 (.t 61) (.t 62)⟩,⟨some 64,none,.ld none (.t 63)⟩,⟨some 65,none,.isl 1 (.t 40) (.t 41)⟩] [⟨some 46,none,.mov (.t 3)⟩,⟨some 47,none,.mov (.t 5)⟩,⟨some 48,none,.bin .add (.t 46) (.t 47)⟩] [⟨some 37,none,.ld none (.t 1)⟩,⟨some 38,none,.ck (.t 37)⟩,⟨some 39,none,.fa 3 (.t 38)⟩,⟨some 40,none,.ld none (.t 39)⟩,⟨some 41,none,.mov (.t 3)⟩,⟨some 42,none,.ld none (.t 1)⟩,⟨some 43,none,.ck (.t 42)⟩,⟨some 44,none,.fa 3 (.t 43)⟩,⟨some 45,none,.ld none (.t 44)⟩,⟨some 46,none,.mov (.t 3)⟩,⟨some 47,none,.mov (.t 5)⟩,⟨some 48,none,.bin .add (.t 46) (.t 47)⟩,⟨some 49,none,.ld none (.t 1)⟩,⟨some 50,none,.ck (.t 49)⟩,⟨some 51,none,.fa 3 (.t 50)⟩,⟨some 52,none,.ld none (.t 51)⟩,⟨some 53,none,.mov (.t 3)⟩,⟨some 54,none,.mov (.t 5)⟩,⟨some 55,none,.bin .add (.t 53) (.t 54)⟩,⟨some 56,none,.isl 1 (.t 52) (.t 55)⟩,⟨some 57,none,.ld none (.t 56)⟩,⟨some 58,none,.ld none (.t 1)⟩,⟨some 59,none,.ck (.t 58)⟩,⟨some 60,none,.fa 3 (.t 59)⟩,⟨some 61,none,.ld none (.t 60)⟩,⟨some 62,none,.mov (.t 3)⟩,⟨some 63,none,.isl 1 (.t 61) (.t 62)⟩,⟨some 64,none,.ld none (.t 63)⟩,⟨some 65,none,.isl 1 (.t 40) (.t 41)⟩,⟨none,none,.st 1 (.t 65) (.t 57)⟩,⟨some 66,none,.isl 1 (.t 45) (.t 48)⟩,⟨none,none,.st 1 (.t 66) (.t 64)⟩] (.seg 29 (.seg 30 (.seg 31 .done)))) (.seq (.reg [⟨some 67,none,.ld none (.t 1)⟩,⟨some 68,none,.mov (.t 3)⟩,⟨some 69,none,.ld none (.t 4)⟩,⟨some 70,none,.call 78 [(.t 67),(.t 68),(.t 69)]⟩]) (.seq (.mixt [⟨some 72,none,.ld none (.t 1)⟩,⟨some 73,none,.ck (.t 72)⟩,⟨some 74,none,.fa 4 (.t 73)⟩,⟨some 75,none,.ld none (.t 74)⟩,⟨some 76,none,.ld none (.t 4)⟩] [⟨some 71,none,.ld none (.t 1)⟩] [⟨some 71,none,.ld none (.t 1)⟩,⟨some 72,none,.ld none (.t 1)⟩,⟨some 73,none,.ck (.t 72)⟩,⟨some 74,none,.fa 4 (.t 73)⟩,⟨some 75,none,.ld none (.t 74)⟩,⟨some 76,none,.ld none (.t 4)⟩,⟨some 77,none,.bsl 3 1 1 [(1,(.int .i64 0))] [(0,1,(.t 76))]⟩,⟨some 78,none,.app 3 1 8 [(1,(.int .i64 0))] (.t 75) (.t 77)⟩,⟨some 79,none,.ck (.t 71)⟩,⟨some 80,none,.fa 4 (.t 79)⟩,⟨none,none,.st 1 (.t 80) (.t 78)⟩] (.seg 6 (.seg 7 (.seg 8 (.seg 9 (.seg 10 .done)))))) (.reg [⟨some 81,none,.mov (.t 3)⟩,⟨some 82,none,.bin .add (.t 81) (.c (.int .i64 1))⟩,⟨some 3,none,.mov (.t 82)⟩]))))))) (.seq (.seq (.reg [⟨some 83,none,.ld none (.t 4)⟩]) (.reg [⟨some 4,none,.new 3 [(1,(.int .i64 0))]⟩,⟨none,none,.st 1 (.t 4) (.t 83)⟩])) (.reg [⟨some 25,none,.ld none (.t 4)⟩,⟨some 26,none,.bin .add (.t 25) (.c (.int .i64 1))⟩,⟨none,none,.st 1 (.t 4) (.t 26)⟩]))))))) (.seq (.reg [⟨some 84,none,.ld none (.t 1)⟩,⟨some 85,none,.ck (.t 84)⟩,⟨some 86,none,.fa 3 (.t 85)⟩,⟨some 87,none,.ld none (.t 86)⟩,⟨some 88,none,.mov (.t 3)⟩,⟨some 89,none,.sls 1 (.t 87) (some (.t 88)) none none⟩,⟨some 6,none,.mov (.t 89)⟩]) (.seq (.drw true [9] [⟨some 90,none,.ld none (.t 1)⟩,⟨some 91,none,.ld none (.t 1)⟩,⟨some 92,none,.ck (.t 91)⟩,⟨some 93,none,.fa 3 (.t 92)⟩,⟨some 94,none,.ld none (.t 93)⟩,⟨some 95,none,.mov (.t 3)⟩,⟨some 96,none,.sls 1 (.t 94) none (some (.t 95)) none⟩,⟨some 97,none,.ck (.t 90)⟩,⟨some 98,none,.fa 3 (.t 97)⟩,⟨none,none,.st 1 (.t 98) (.t 96)⟩]) (.seq (.reg [⟨some 99,none,.mov (.t 6)⟩,⟨some 100,none,.mkf 80 [] [(.t 1)]⟩,⟨some 101,none,.call 79 [(.t 99),(.t 100)]⟩,⟨some 102,none,.un .not (.t 101)⟩,⟨some 2,none,.mov (.t 102)⟩]) .ret)))))))

set_option maxRecDepth 100000 in
theorem tr42 : trFn Tryz.prog Tryz.f42 = some (103, ir42, [.tmp 2]) := by kernel_rfl

theorem system_solve (p : Int) (a m : Nat) (R0 : Nat → Nat → Int) (sb rb : Nat) (bk cp : Nat → Nat) (ks : Blk) (H : Hp) (n : Nat) (hp : isP p = true) (ha : a ≤ 8) (hm : m ≤ 2000000) (hm1 : 1 ≤ m) (J : (Nat → Nat → Int) → Prop) (hJ0 : J R0) (hJs : ∀ R x y, x < m → y < m → J R → J (swp R x y)) (hJc : ∀ R d c, d < m → c < a → R d c % p ≠ 0 → J R → J (clr p R d c))
    (hS : SY H sb p a m R0 rb bk cp ks) (hR : ∀ k x, k < m → x ≤ a → 0 ≤ R0 k x ∧ R0 k x < p) :
    FnS Tryz.prog 42 [ptr sb 0] H n (fun r H' n' => ∃ R pl d bk' ks' pb, r = bl (tb (∀ j, d ≤ j → j < m → R j a = 0)) ∧ d ≤ m ∧ RF p R m a pl d a ∧ J R ∧
      SY H' sb p a d R rb bk' cp ks' ∧ SL H' (ks'.c 4) d (fun k => .int .i64 (pl k : Nat)) pb ∧ pb < n' ∧ (∀ x, n' ≤ x → H'.get x = none) ∧ ∀ x, x < n → x ≠ sb → x ≠ rb → (∀ k, k < m → x ≠ bk k) → H'.get x = H.get x) := by
  obtain ⟨gs, ss, s0, s1, s2, srow, hrow, qc, d1, d2, d3⟩ := id hS
  refine FnS.of_body Tryz.func42 tr42 (by simp) (fun hf => ?_)
  dsimp only [argEnv]
  unfold ir42
  have hsn := getlt hf gs
  have hrn : rb < n := by
    rcases srow with ⟨_, h0⟩ | ⟨o, cap, k, _, g, _⟩
    · omega
    · exact getlt hf g
  have hbn : ∀ j, j < m → bk j < n := fun j hj => by
    obtain ⟨kj, gj, _⟩ := hrow j hj
    exact getlt hf gj
  (refine zG ?_)
  refine CS.weak (e1 := [(4, ptr (n + 1) 0), (3, i64 ((0 : Nat) : Int)), (1, ptr n 0)]) (by (repeat first | exact trivial | refine And.intro rfl ?_)) (Drops.refl _ _) ?_
  refine CS.loopX (fun k e H1 n1 => ∃ c d R pl bk' ks' pb b4, k = a - c ∧ e = [(4, ptr b4 0), (3, i64 (d : Nat)), (1, ptr n 0)] ∧ SLV J H n sb rb 77 p a m bk c d R pl bk' cp ks' pb b4 H1 n1)
    (fun e H1 n1 => ∃ c d R pl bk' ks' pb b4, (c = a ∨ d = m) ∧ EnvLe [(3, i64 (d : Nat)), (1, ptr n 0)] e ∧ SLV J H n sb rb 77 p a m bk c d R pl bk' cp ks' pb b4 H1 n1) 0 a ?_ ?_ ?_
  · refine ⟨0, 0, R0, fun _ => 0, bk, ⟨ks.size, put1 ks.c 4 .nils, ks.ty⟩, n, n + 1, rfl, rfl, ?_⟩
    have e0 : (H.set sb (put1 ks.c 4 .nils)).get n = none := by rw [Hp.get_set_other _ (by omega)]; exact hf n (Nat.le_refl _)
    have e1 : (H.set sb (put1 ks.c 4 .nils)).get (n + 1) = none := by rw [Hp.get_set_other _ (by omega)]; exact hf (n + 1) (by omega)
    exact { sy := ((hS.cellc hrn hbn (Hp.get_set_self _ gs) (fun z q1 q2 => Hp.get_set_other _ (fun q => q2 q.symm))).push e0).push (by rw [Hp.get_ne _ _ (by omega)]; exact e1), pls := .inl ⟨rfl, rfl⟩, rf := RF.zero hR, eqv := hJ0, ca := Nat.zero_le _,
            g1 := by rw [Hp.get_ne _ _ (by omega), Hp.get_eq], g4 := ⟨_, Hp.get_eq _ _ _, rfl, rfl⟩, b4n := by omega, pbn := by omega, pb0 := fun _ => rfl, prm := fun k hk => ⟨k, hk, rfl⟩,
            low := fun x q1 q2 _ _ => by rw [Hp.get_ne _ _ (by omega), Hp.get_ne _ _ (by omega), Hp.get_set_other _ (fun q => q2 q.symm)],
            fresh := fun x hx => by rw [Hp.get_ne _ _ (by omega), Hp.get_ne _ _ (by omega), Hp.get_set_other _ (by omega)]; exact hf x (by omega) }
  · rintro k e H1 n1 hn1 ⟨c, d, R, pl, bk', ks', pb, b4, rfl, rfl, hV⟩
    have gs' := hV.sy.g
    have ss' := hV.sy.s
    have s2' : ks'.c (0 + 2) = .int .i64 (a : Nat) := hV.sy.c2
    have g1 := hV.g1
    obtain ⟨k4, g4, k4s, k4c⟩ := hV.g4
    have hb4 := hV.b4n
    have hpb := hV.pbn
    have hca := hV.ca
    have hdm := hV.rf.dm
    rcases hV.sy.rows with ⟨_, h0⟩ | ⟨ro, rcap, rk, r3, rg, rs, rm, rc⟩
    · omega
    have r3' : ks'.c (0 + 3) = .slc rb ro m rcap := r3
    (refine zG ?_)
    refine RS.sp (t := 16) rfl (fun h1 => ?_) (fun h1 => ?_) <;> (try simp only [tb_eq, tb_eqF, decide_eq_true_eq, decide_eq_false_iff_not, beq_iff_eq, bne_iff_ne, ne_eq, Decidable.not_not, beq_eq_false_iff_ne, bne_eq_false_iff_eq, Bool.not_eq_true', Bool.not_eq_false', Bool.not_eq_eq_eq_not, Bool.not_true, Bool.not_false] at h1)
    · (repeat first|refine zG ?_|(refine LS.nilQ ?_;try with_reducible intro nq hnq;try refine zU ?_))
      refine zI ?_ ?_<;>intro h2
      · (refine zG ?_)
        refine RS.slsFrom (by exact rfl) (by exact rfl) rfl (by omega) ?_
        (refine zG ?_)
        refine RS.call rfl ((slices_IndexFuncR (fun i => R (d + i) c ≠ 0) 77 [.ptr b4 0] rb (if rcap = d then ro else ro + d * 1) (m - d) (rcap - d) (by omega) rk (fun i => .slc (bk' (d + i)) 0 (a + 1) (cp (bk' (d + i)))) _ _ rg (by rw [if_neg (by omega)]; omega) (fun i hi => by rw [if_neg (by omega)]; have := rc (d + i) (by omega); rw [← Nat.add_assoc] at this; rw [Nat.mul_one]; exact this) (fun i n' hi hn' => by
            obtain ⟨ki, gi, si, ci⟩ := hV.sy.row (d + i) (by omega)
            exact system_solve_1 (R (d + i)) a c (bk' (d + i)) b4 (cp (bk' (d + i))) ki k4 _ _ gi si ci (by omega) g4 k4s k4c)).mono ?_)
        rintro r H1 n2 hn2 ⟨⟨x, rfl, hx⟩, rfl⟩
        (refine zG ?_)
        refine zI ?_ ?_<;>intro h3
        · have hno : ∀ j, d ≤ j → j < m → R j c = 0 := fun j hj hj2 => by
            rcases hx with ⟨i, rfl, _⟩ | ⟨_, h4⟩
            · omega
            · have := h4 (j - d) (by omega)
              rw [show d + (j - d) = j by omega] at this
              exact Classical.not_not.1 this
          (refine zG ?_)
          refine ⟨a - (c + 1), [(4, ptr _ 0), (3, i64 (d : Nat)), (1, ptr n 0)], _, by omega, by (repeat first | exact trivial | refine And.intro rfl ?_), Drops.refl _ _, c + 1, d, R, pl, bk', ks', pb, _, rfl, rfl, (hV.le (by omega)).cell (by omega) (hV.rf.skip hno) (Nat.le_refl _) (by omega) rfl rfl⟩
        · rcases hx with ⟨i, rfl, hi, hQ, hmin⟩ | ⟨rfl, _⟩
          rotate_left
          · omega
          have hbi : d + i < m := by omega
          (refine zG ?_)
          refine CS.mixtL [] (fun b k h => absurd h (by simp [Hp.get])) ?_
          (repeat first|refine zG ?_|(refine LS.nilQ ?_;try with_reducible intro nq hnq;try refine zU ?_))
          refine MTW.seg ?_; dsimp only [OT.os, OT.rest, pick, List.filterMap_cons, List.getElem?_cons_zero, List.getElem?_cons_succ, List.filterMap_nil]
          refine MS.st1f (by exact rfl) (by exact rfl) rg (by omega) rfl rfl ?_
          refine MS.isl (j := d + i) (by exact rfl) (by exact rfl) (by omega) (by omega) ?_
          refine MS.st1f (by exact rfl) (by exact rfl) (Hp.get_set_self _ rg) (by (try dsimp only); omega) rfl rfl ?_
          refine MS.nil (MTW.done ?_)
          intro n3 hn3 hlt3
          obtain ⟨H2, hH2⟩ : ∃ H2, H2 = ((H1.set rb (put1 rk.c (ro + d * 1) (rk.c (ro + (d + i) * 1)))).set rb (put1 (put1 rk.c (ro + d * 1) (rk.c (ro + (d + i) * 1))) (ro + (d + i) * 1) (rk.c (ro + d * 1)))) := ⟨_, rfl⟩
          (try dsimp only at hlt3 ⊢)
          rw [← hH2] at hlt3 ⊢
          have l2 : ∀ z, z ≠ rb → H2.get z = H1.get z := fun z hz => by rw [hH2, Hp.get_set_other _ (fun q => hz q.symm), Hp.get_set_other _ (fun q => hz q.symm)]
          have rg2 : H2.get rb = some ⟨rk.size, put1 (put1 rk.c (ro + d * 1) (rk.c (ro + (d + i) * 1))) (ro + (d + i) * 1) (rk.c (ro + d * 1)), rk.ty⟩ := by
            have q1 := Hp.get_set_self (put1 rk.c (ro + d * 1) (rk.c (ro + (d + i) * 1))) rg
            have q2 := Hp.get_set_self (put1 (put1 rk.c (ro + d * 1) (rk.c (ro + (d + i) * 1))) (ro + (d + i) * 1) (rk.c (ro + d * 1))) q1
            rw [hH2]; exact q2
          have hS2 : SY H2 sb p a m (swp R d (d + i)) rb (fun k => bk' (xch d (d + i) k)) cp ks' := by
            refine hV.sy.swap r3 (by omega) hbi rm rg2 rs (fun k hk => ?_) l2
            (try dsimp only)
            rw [Nat.mul_one, Nat.mul_one, rc d (by omega), rc (d + i) hbi]
            unfold put1 xch
            by_cases e1 : k = d + i
            · rw [if_pos (by omega)]
              by_cases e2 : k = d
              · rw [if_pos e2, ← e1, e2]
              · rw [if_neg e2, if_pos e1]
            · rw [if_neg (by omega)]
              by_cases e2 : k = d
              · rw [if_pos (by omega), if_pos e2]
              · rw [if_neg (by omega), if_neg e2, if_neg e1, rc k hk]
          have g12 : H2.get n = some ⟨1, fun _ => .ptr sb 0, 77⟩ := by rw [l2 n (by omega)]; exact g1
          have g42 : H2.get b4 = some k4 := by rw [l2 b4 (by omega)]; exact g4
          have gs2 : H2.get sb = some ks' := by rw [l2 sb d1]; exact gs'
          have hrs := hV.rf.swp (Nat.le_refl d) (show d < m by omega) (show d ≤ d + i by omega) hbi
          have hne : swp R d (d + i) d c ≠ 0 := by unfold swp; rw [if_pos rfl]; exact hQ
          have hbk2 : ∀ k, k < m → bk' (xch d (d + i) k) < n := fun k hk => by
            obtain ⟨j, hj, e⟩ := hV.prm _ (xch_lt (show d < m by omega) hbi hk)
            rw [e]; exact hbn j hj
          have hfr2 : ∀ z, n2 ≤ z → H2.get z = none := fun z hz => by rw [l2 z (by omega)]; exact hV.fresh z (by omega)
          (refine zG ?_)
          refine RS.call rfl ((system_clear p a m d c (swp R d (d + i)) sb rb _ cp ks' _ _ hp ha hm (by omega) (by omega) hS2 (fun k x hk hx => hrs.res k x hk (by omega)) hne).mono ?_)
          rintro r H3 n4 hn4 ⟨rfl, hS3, hF3⟩
          have l3 : ∀ z, n ≤ z → H3.get z = H2.get z := fun z hz => hF3 z (fun k hk q => by (try dsimp only at q); have := hbk2 k hk; omega)
          have g13 : H3.get n = some ⟨1, fun _ => .ptr sb 0, 77⟩ := by rw [l3 n (by omega)]; exact g12
          have g43 : H3.get b4 = some k4 := by rw [l3 b4 (by omega)]; exact g42
          have gs3 := hS3.g
          have hp3 : SL H3 (ks'.c 4) d (fun k => .int .i64 (pl k : Nat)) pb := (hV.pls.keep (l2 pb (by omega))).keep (l3 pb hpb.1)
          have hfr3 : ∀ z, n4 ≤ z → H3.get z = none := fun z hz => by rw [l3 z (by omega)]; exact hfr2 z (by omega)
          (refine zG ?_)
          refine CS.mixtL [(n, ⟨1, fun _ => .ptr sb 0, 77⟩)] (Ext.one g13) ?_
          (repeat first|refine zG ?_|(refine LS.nilQ ?_;try with_reducible intro nq hnq;try refine zU ?_))
          refine MTW.seg ?_; dsimp only [OT.os, OT.rest, pick, List.filterMap_cons, List.getElem?_cons_zero, List.getElem?_cons_succ, List.filterMap_nil]
          refine MS.bsl rfl ?_
          intro b7 hb7 hf7
          refine MS.appS (w := .int .i64 (c : Nat)) (by exact rfl) (by exact rfl) (hp3.push (hf7 b7 (Nat.le_refl _))) (Hp.get_eq _ _ _) rfl rfl (by omega) (by omega) ?_ ?_
          · by_cases e : pb = n
            · exact .inl (hV.pb0 e)
            · exact .inr (by rw [Hp.get_ne _ _ (fun q => e q.symm)]; rfl)
          intro v' b' H4 kk hSL hb' gb' l4
          have hbb : n < b' ∧ b' ≠ b4 ∧ b' ≠ b7 := by
            rcases hb' with ⟨e, h6⟩ | ⟨h6, h7⟩
            · have : pb ≠ n := fun q => h6 (hV.pb0 q)
              omega
            · refine ⟨by omega, by omega, fun q => ?_⟩
              rw [q, Hp.get_eq] at h7
              cases h7
          refine MS.ck (by exact rfl) ?_
          refine MS.fa (by exact rfl) ?_
          refine MS.st1f (by exact rfl) (by exact rfl) (k := ks') (by rw [l4 sb (by omega), Hp.get_ne _ _ (by omega)]; exact gs3) (by omega) (by rw [Hp.get_ne _ _ (by omega)]; rfl) rfl ?_
          refine MS.nil (MTW.done ?_)
          intro n5 hn5 hlt5
          (try dsimp only at hlt5 ⊢)
          obtain ⟨H5, hH5⟩ : ∃ H5, H5 = H4.set sb (put1 ks'.c (0 + 4) v') := ⟨_, rfl⟩
          rw [← hH5] at hlt5 ⊢
          have l5 : ∀ z, z ≠ sb → z ≠ b' → z ≠ b7 → H5.get z = H3.get z := fun z q1 q2 q3 => by rw [hH5, Hp.get_set_other _ (fun q => q1 q.symm), l4 z q2, Hp.get_ne _ _ (fun q => q3 q.symm)]
          have gs5 : H5.get sb = some ⟨ks'.size, put1 ks'.c 4 v', ks'.ty⟩ := by
            rw [hH5]; exact Hp.get_set_self _ (by rw [l4 sb (by omega), Hp.get_ne _ _ (by omega)]; exact gs3)
          have g15 : H5.get n = some ⟨1, fun _ => .ptr sb 0, 77⟩ := by rw [l5 n (by omega) (by omega) (by omega)]; exact g13
          have g45 : H5.get b4 = some k4 := by rw [l5 b4 (by omega) (by omega) (by omega)]; exact g43
          have hS5 : SY H5 sb p a m (clr p (swp R d (d + i)) d c) rb (fun k => bk' (xch d (d + i) k)) cp ⟨ks'.size, put1 ks'.c 4 v', ks'.ty⟩ := hS3.cellc hrn hbk2 gs5 (fun z q1 q2 => l5 z q2 (by omega) (by omega))
          have hSL5 : SL H5 v' (d + 1) (snS (fun k => .int .i64 (pl k : Nat)) d (.int .i64 (c : Nat))) b' := hSL.keep (by rw [hH5]; exact Hp.get_set_other _ (by omega))
          have hfr5 : ∀ z, n5 ≤ z → H5.get z = none := fun z hz => by
            cases q : H5.get z with
            | none => rfl
            | some k => have := hlt5 z k q; omega
          have hb'n : b' < n5 := hlt5 b' kk (by rw [hH5, Hp.get_set_other _ (by omega)]; exact gb')
          (refine zG ?_)
          refine ⟨a - (c + 1), [(4, ptr _ 0), (3, i64 ((d + 1 : Nat) : Int)), (1, ptr n 0)], _, by omega, by (repeat first | exact trivial | refine And.intro rfl ?_), Drops.refl _ _, c + 1, d + 1, clr p (swp R d (d + i)) d c, (fun k => if k = d then c else pl k), (fun k => bk' (xch d (d + i) k)), ⟨ks'.size, put1 ks'.c 4 v', ks'.ty⟩, b', _, rfl, rfl, ?_⟩
          have h5n := hfr5 n5 (Nat.le_refl _)
          have e1 : (fun k => SV.int .i64 ((if k = d then c else pl k : Nat) : Int)) = snS (fun k => .int .i64 (pl k : Nat)) d (.int .i64 (c : Nat)) := by
            funext k; unfold snS; split <;> rfl
          have h0p : swp R d (d + i) d c % p ≠ 0 := by rw [modSelf (hrs.res d c (by omega) (by omega))]; exact hne
          exact { sy := hS5.push h5n, pls := by rw [e1]; exact hSL5.push h5n, rf := RF.clr hp hrs (by omega) (by omega) hne, eqv := hJc _ d c (by omega) (by omega) h0p (hJs _ d (d + i) (by omega) hbi hV.eqv), ca := by omega,
                  g1 := by rw [Hp.get_ne _ _ (by omega)]; exact g15, g4 := ⟨_, Hp.get_eq _ _ _, rfl, rfl⟩, b4n := ⟨by omega, by omega⟩, pbn := ⟨by omega, by omega, by omega⟩, pb0 := fun q => by omega, prm := fun k hk => hV.prm _ (xch_lt (by omega) hbi hk),
                  low := fun x q1 q2 q3 q4 => by
                    rw [Hp.get_ne _ _ (by omega), l5 x q2 (by omega) (by omega), hF3 x (fun k hk q => by
                      obtain ⟨j, hj, e⟩ := hV.prm _ (xch_lt (show d < m by omega) hbi hk)
                      exact q4 j hj (q.trans e)), l2 x q3]
                    exact hV.low x q1 q2 q3 q4,
                  fresh := fun x hx => by rw [Hp.get_ne _ _ (by omega)]; exact hfr5 x (by omega) }
      · (refine zG ?_)
        exact ⟨trivial, c, d, R, pl, bk', ks', pb, b4, by omega, by (repeat first | exact trivial | refine And.intro rfl ?_), hV.le (by omega)⟩
    · (repeat first|refine zG ?_|(refine LS.nilQ ?_;try with_reducible intro nq hnq;try refine zU ?_))
      exact ⟨trivial, c, d, R, pl, bk', ks', pb, b4, by omega, by (repeat first | exact trivial | refine And.intro rfl ?_), hV.le (by omega)⟩
  · rintro e H1 n1 hn1 ⟨c, d, R, pl, bk', ks', pb, b4, hcd, hE, hV⟩
    dsimp only [Ex.then, Ex.inBlock, ↓reduceIte, Nat.reduceEqDiff]
    (try simp only [↓reduceIte])
    refine CS.weak hE (Drops.refl _ _) ?_
    have gs' := hV.sy.g
    have ss' := hV.sy.s
    have s2' : ks'.c (0 + 2) = .int .i64 (a : Nat) := hV.sy.c2
    have g1 := hV.g1
    have hb4 := hV.b4n
    have hpb := hV.pbn
    have hdm := hV.rf.dm
    rcases hV.sy.rows with ⟨_, h0⟩ | ⟨ro, rcap, rk, r3, rg, rs, rm, rc⟩
    · omega
    have r3' : ks'.c (0 + 3) = .slc rb ro m rcap := r3
    (refine zG ?_)
    refine RS.slsFrom (by exact rfl) (by exact rfl) rfl (by omega) ?_
    (refine zG ?_)
    refine RS.slsTo (by exact rfl) (by exact rfl) rfl (by omega) ?_
    (repeat first|refine zG ?_|(refine LS.nilQ ?_;try with_reducible intro nq hnq;try refine zU ?_))
    have l2 : ∀ z, z ≠ sb → (H1.set sb (put1 ks'.c 3 (.slc rb ro d rcap))).get z = H1.get z := fun z hz => Hp.get_set_other _ (fun q => hz q.symm)
    have gs2 := Hp.get_set_self (put1 ks'.c 3 (.slc rb ro d rcap)) gs'
    obtain ⟨H2, hH2⟩ : ∃ H2, H2 = H1.set sb (put1 ks'.c 3 (.slc rb ro d rcap)) := ⟨_, rfl⟩
    rw [← hH2] at l2 gs2 ⊢
    have hfr2 : ∀ z, n1 ≤ z → H2.get z = none := fun z hz => by rw [l2 z (by omega)]; exact hV.fresh z hz
    have hbk' : ∀ k, k < m → bk' k < n := fun k hk => by
      obtain ⟨j, hj, e⟩ := hV.prm k hk
      rw [e]; exact hbn j hj
    refine RS.call rfl ((slices_ContainsFuncR (fun i => R (d + i) a ≠ 0) 80 [.ptr n 0] rb (if rcap = d then ro else ro + d * 1) (m - d) (rcap - d) (by omega) rk (fun i => .slc (bk' (d + i)) 0 (a + 1) (cp (bk' (d + i)))) _ _ (by rw [l2 rb d1.symm]; exact rg) (by split <;> omega) (fun i hi => by rw [if_neg (by omega)]; have := rc (d + i) (by omega); rw [← Nat.add_assoc] at this; rw [Nat.mul_one]; exact this) (fun i n' hi hn' => by
        obtain ⟨ki, gi, si, ci⟩ := hV.sy.row (d + i) (by omega)
        exact system_solve_2 (R (d + i)) a (bk' (d + i)) n sb (cp (bk' (d + i))) ki _ _ _ _ (by rw [l2 _ (by have := hbk' (d + i) (by omega); have := (hV.sy.d2 (d + i) (by omega)).1; omega)]; exact gi) si ci (by rw [l2 n (by omega)]; exact g1) rfl rfl gs2 ss' hV.sy.c2)).mono ?_)
    rintro r H2 n3 hn3 ⟨rfl, rfl⟩
    (refine zG ?_)
    refine ⟨bl (tb (∀ j, d ≤ j → j < m → R j a = 0)), H2, ?_, by exact zD, R, pl, d, bk', _, pb, rfl, hdm, hV.rf.done hV.ca hcd, hV.eqv,
      { g := gs2, s := ss', c0 := hV.sy.c0, c1 := hV.sy.c1, c2 := hV.sy.c2, rows := .inr ⟨ro, rcap, rk, rfl, (by rw [l2 rb d1.symm]; exact rg), rs, by omega, fun i hi => rc i (by omega)⟩, row := fun i hi => ?_, qc := fun i hi => hV.sy.qc i (by omega), d1 := d1, d2 := fun i hi => hV.sy.d2 i (by omega), d3 := fun i j hi hj => hV.sy.d3 i j (by omega) (by omega) },
      hV.pls.keep (l2 pb (by omega)), by omega, fun x hx => hfr2 x (by omega), fun x q1 q2 q3 q4 => by rw [l2 x q2]; exact hV.low x q1 q2 q3 q4⟩
    · rw [tb_not]
      refine congrArg (fun b => (bl b).conc) (tb_iff ⟨fun q j h1 h2 => Classical.byContradiction fun h3 => q ⟨j - d, by omega, by rw [show d + (j - d) = j by omega]; exact h3⟩, fun q h => ?_⟩)
      obtain ⟨i, h1, h2⟩ := h
      exact h2 (q (d + i) (by omega) (by omega))
    · obtain ⟨ki, gi, si⟩ := hV.sy.row i (by omega)
      exact ⟨ki, by rw [l2 _ (hV.sy.d2 i (by omega)).1]; exact gi, si⟩

end Go.Proofs.YtgnphaopeplfbaaGreatDoor

/- Whether vectors are of an algebra, and the code of that. -/

namespace Go.V

set_option linter.unusedSimpArgs false

set_option linter.unusedVariables false

theorem cdI {Q R : Prop} (h : Q ↔ R) : cd Q = cd R := by unfold cd; rw [tb_iff h]

end Go.V

namespace Go.Proofs.YtgnphaopeplfbaaGreatDoor

open Go.V

variable [BW]

set_option linter.unusedSimpArgs false

set_option linter.unusedVariables false

set_option maxHeartbeats 4000000

/-- (*impl.Algebra).has$1 -/
def ir92 : Cd := (.seq (.reg [⟨some 2,none,.box 25 (.t 0)⟩,⟨some 3,none,.mov (.c (.bool false))⟩]) (.seq (.drw true [9] [⟨some 4,none,.ld none (.t 1)⟩,⟨some 5,none,.ck (.t 4)⟩,⟨some 6,none,.fa 0 (.t 5)⟩,⟨some 7,none,.ld none (.t 6)⟩,⟨some 8,none,.ld none (.t 1)⟩,⟨some 9,none,.ck (.t 8)⟩,⟨some 10,none,.fa 1 (.t 9)⟩,⟨some 11,none,.ld none (.t 10)⟩,⟨some 12,none,.ld (some 8) (.t 2)⟩,⟨some 13,none,.call 33 [(.t 7),(.t 11),(.t 12)]⟩,⟨some 14,none,.un .not (.t 13)⟩,⟨some 3,none,.mov (.t 14)⟩]) .ret))

set_option maxRecDepth 100000 in
theorem tr92 : trFn Tryz.prog Tryz.f92 = some (15, ir92, [.tmp 3]) := by kernel_rfl

theorem Algebra_has_1 (p n' : Int) (b nb : Nat) (w : Nat → Int) (K Kb : Blk) (H : Hp) (n : Nat) (hb : H.get b = some K) (hsz : K.size = 522) (h0 : K.c 0 = .int .i64 p) (h1 : K.c 1 = .int .i64 n') (hw : isBy 8 w)
    (gb : H.get nb = some Kb) (sb : Kb.size = 1) (cb : Kb.c 0 = .ptr b 0) :
    FnS Tryz.prog 92 [.arr 8 (bys w), ptr nb 0] H n (fun r H' _ => r = bl (tb (¬(sz p n' ∧ isVec p n' w))) ∧ H' = H) := by
  have h1' : K.c (0 + 1) = .int .i64 n' := h1
  refine FnS.of_body Tryz.func92 tr92 (by simp) (fun hf => ?_)
  dsimp only [argEnv]
  unfold ir92
  have hbn := getlt hf hb
  have hbn2 := getlt hf gb
  (repeat first|refine zG ?_|(refine LS.nilO ?_;intro nq hnq hltq;try refine zU ?_)|(refine MS.new ?_;intro bq hbq hbqf;try refine zU ?_)|(refine MS.nil ?_;intro nq hnq hltq;have hlq:=hltq _ _ (Hp.get_eq _ _ _);clear hltq;try refine zU ?_)|(refine LS.nilQ ?_;try with_reducible intro nq hnq;try refine zU ?_))
  refine RS.call rfl ((impl_IsVector p n' w _ _ hw).mono ?_)
  rintro r H' n2 hn2 ⟨rfl, rfl⟩
  (refine zG ?_)
  exact ⟨_, H, rfl, by exact zD, by rw [tb_not], rfl⟩

/-- (*impl.Algebra).has -/
def ir63 : Cd := (.seq (.reg [⟨some 2,none,.box 103 (.t 0)⟩,⟨some 4,none,.mov (.c (.bool false))⟩]) (.seq (.reg [⟨some 5,none,.mov (.t 1)⟩,⟨some 6,none,.mkf 92 [] [(.t 2)]⟩,⟨some 7,none,.call 91 [(.t 5),(.t 6)]⟩,⟨some 8,none,.un .not (.t 7)⟩,⟨some 4,none,.mov (.t 8)⟩]) .ret))

set_option maxRecDepth 100000 in
theorem tr63 : trFn Tryz.prog Tryz.f63 = some (9, ir63, [.tmp 4]) := by kernel_rfl

/-- The vectors of a list are shaped. -/
theorem Algebra_has (p n' : Int) (b : Nat) (v : SV) (len : Nat) (hl : len ≤ 4000000) (w : Nat → Int) (K : Blk) (H : Hp) (n : Nat) (hb : H.get b = some K) (hsz : K.size = 522) (h0 : K.c 0 = .int .i64 p) (h1 : K.c 1 = .int .i64 n') (hv : lst H v len w) (hw : isBy (8 * len) w) :
    FnS Tryz.prog 63 [ptr b 0, .s v] H n (fun r H' _ => r = bl (tb (∀ i, i < len → sz p n' ∧ isVec p n' (fun x => w (i * 8 + x)))) ∧ H' = H) := by
  refine FnS.of_body Tryz.func63 tr63 (by simp) (fun hf => ?_)
  dsimp only [argEnv]
  unfold ir63
  have hbn := getlt hf hb
  have hv' : lst ((n, ⟨1, fun _ => .ptr b 0, 103⟩) :: H) v len w := by
    rcases hv with h1 | ⟨b2, o, c, K2, h1, h2, h3⟩
    · exact .inl h1
    · have := getlt hf h2
      exact .inr ⟨b2, o, c, K2, h1, by rw [Hp.get_ne _ _ (by omega)]; exact h2, h3⟩
  (refine zG ?_)
  refine RS.call rfl ((slices_ContainsFunc (fun i => ¬(sz p n' ∧ isVec p n' (fun x => w (i * 8 + x)))) 92 [.ptr n 0] v len hl w _ _ hv' (fun i n2 hi hn' => Algebra_has_1 p n' b n (fun x => w (i * 8 + x)) K _ _ _ (by exact zH) hsz h0 h1 (fun x hx => hw _ (by omega)) (by exact zH) rfl rfl)).mono ?_)
  rintro r H' n2 hn2 ⟨rfl, rfl⟩
  (refine zG ?_)
  refine ⟨_, H, rfl, by exact zD, ?_, rfl⟩
  rw [tb_not]
  exact congrArg bl (tb_iff ⟨fun q i hi => Classical.byContradiction fun h1 => q ⟨i, hi, h1⟩, fun q ⟨i, hi, h1⟩ => h1 (q i hi)⟩)

/-- (*impl.Algebra).code -/
def ir29 : Cd := (.seq (.reg [⟨some 4,none,.mov (.c (.int .i64 0))⟩]) (.seq (.reg [⟨some 5,none,.mov (.t 0)⟩,⟨some 6,none,.ck (.t 5)⟩,⟨some 7,none,.ld (some 522) (.t 6)⟩,⟨some 8,none,.call 62 [(.t 7)]⟩,⟨some 9,none,.mov (.t 8)⟩,⟨some 10,(some (9,true)),.mov (.t 0)⟩,⟨some 11,(some (9,true)),.mov (.t 1)⟩,⟨some 12,(some (9,true)),.call 63 [(.t 10),(.t 11)]⟩,⟨some 13,none,.pick (.t 9) (.t 12) (.c (.bool false))⟩,⟨some 14,none,.call 49 [(.t 13),(.c (.int .i64 1))]⟩,⟨some 4,none,.mov (.t 14)⟩]) .ret))

set_option maxRecDepth 100000 in
theorem tr29 : trFn Tryz.prog Tryz.f29 = some (15, ir29, [.tmp 4]) := by kernel_rfl

theorem Algebra_code (p n' : Int) (u m : Nat → Int) (b : Nat) (v : SV) (len : Nat) (hl : len ≤ 4000000) (w : Nat → Int) (K : Blk) (H : Hp) (n : Nat) (hb : H.get b = some K) (hsz : K.size = 522) (h0 : K.c 0 = .int .i64 p) (h1 : K.c 1 = .int .i64 n')
    (hU : ∀ q, q < 8 → K.c (2 + q) = .int .u8 (u q)) (hK : ∀ q, q < 512 → K.c (10 + q) = .int .u8 (m q)) (hu : isBy 8 u) (hm : isBy 512 m) (hv : lst H v len w) (hw : isBy (8 * len) w) :
    FnS Tryz.prog 29 [ptr b 0, .s v] H n (fun r H' _ => r = i64 (cd (isAlg p n' u m ∧ ∀ i, i < len → isVec p n' (fun x => w (i * 8 + x)))) ∧ H' = H) := by
  refine FnS.of_body Tryz.func29 tr29 (by simp) (fun hf => ?_)
  dsimp only [argEnv]
  unfold ir29
  have hbn := getlt hf hb
  (refine zG ?_)
  refine RS.call rfl ((FnS.args (concs_cons (conc_arr (fun q hq => rfl)) rfl) (impl_IsAlgebra p n' u m K.c _ _ h0 h1 hU hK hu hm)).mono ?_)
  rintro r H n2 hn2 ⟨rfl, rfl⟩
  (refine zG ?_)
  refine RS.sp (t := 9) rfl (fun h3 => ?_) (fun h3 => ?_) <;> (try simp only [tb_eq, tb_eqF, decide_eq_true_eq, decide_eq_false_iff_not, beq_iff_eq, bne_iff_ne, ne_eq, Decidable.not_not, beq_eq_false_iff_ne, bne_eq_false_iff_eq, Bool.not_eq_true', Bool.not_eq_false', Bool.not_eq_eq_eq_not, Bool.not_true, Bool.not_false] at h3)
  · (refine zG ?_)
    refine RS.call rfl ((Algebra_has p n' b v len hl w K _ _ (by exact zH) hsz h0 h1 hv hw).mono ?_)
    rintro r H n3 hn3 ⟨rfl, rfl⟩
    (refine zG ?_)
    refine RS.call rfl ((impl_unless _ _ _).mono ?_)
    rintro r H n4 hn4 ⟨rfl, rfl⟩
    (refine zG ?_)
    exact ⟨_, H, rfl, by exact zD, congrArg i64 (cdI ⟨fun q => ⟨h3, fun i hi => (q i hi).2⟩, fun q i hi => ⟨h3.1.1, q.2 i hi⟩⟩), rfl⟩
  · (refine zG ?_)
    refine RS.call rfl ((FnS.args (by rw [tb_false (show ¬False from id)]) (impl_unless False _ _)).mono ?_)
    rintro r H n4 hn4 ⟨rfl, rfl⟩
    (refine zG ?_)
    exact ⟨_, H, rfl, by exact zD, congrArg i64 (cdI ⟨fun q => q.elim, fun q => h3 q.1⟩), rfl⟩

end Go.Proofs.YtgnphaopeplfbaaGreatDoor

/- Inverses of vectors by a system of equations: the plain law. -/

namespace Go.V

set_option linter.unusedVariables false

/-- The equations that say that v times z is the unit. -/
def irow (p : Int) (u m v : Nat → Int) (a : Nat) : Nat → Nat → Int := fun k x => if x < a then pr p m v (bas x) a k % p else u k % p

theorem irow_res {p : Int} (hp : 2 ≤ p) (u m v : Nat → Int) (a k x : Nat) : 0 ≤ irow p u m v a k x ∧ irow p u m v a k x < p := by
  unfold irow; split <;> exact modB _ hp

theorem irow_sat {p : Int} {u m v z : Nat → Int} {a : Nat} (ha : a ≤ 8) (hru : isRes p 8 u) : sat p (irow p u m v a) a a z ↔ ∀ k, k < a → pr p m v z a k = u k := by
  have key : ∀ k, k < a → (rsd a (irow p u m v a k) z % p = 0 ↔ pr p m v z a k = u k) := fun k hk => by
    have hu := hru k (by omega)
    unfold rsd
    rw [sm_congr (g := fun j => z j * pr p m v (bas j) a k) (fun c hc => by unfold irow; rw [if_pos hc, pr_idem, Int.mul_comm])]
    have e1 : irow p u m v a k a = u k := by unfold irow; rw [if_neg (by omega), modSelf hu]
    rw [e1, ← Int.emod_eq_emod_iff_emod_sub_eq_zero, modSelf hu, pr_linr]
  exact ⟨fun h k hk => (key k hk).1 (h k hk), fun h k hk => (key k hk).2 (h k hk)⟩

theorem pr_out {p : Int} {m : Nat → Int} {a : Nat} (ha : a ≤ 8) (hm : isTab p a m) (x y : Nat → Int) {q : Nat} (hq : q < 8) (h : a ≤ q) : pr p m x y a q = 0 := by
  rw [pr_eq, sm_zero (fun i hi => sm_zero (fun j hj => by
    have := (((hm i (by omega)).1 j (by omega)).1 q hq).2 (by omega)
    (try dsimp only at this)
    rw [show 64 * i + 8 * j + q = 64 * i + (8 * j + q) by omega, this, Int.mul_zero])), Int.zero_emod]

theorem sol_res {p : Int} (hp : 2 ≤ p) {R : Nat → Nat → Int} {n : Nat} {pl : Nat → Nat} : ∀ {d : Nat}, (∀ k, k < d → 0 ≤ R k n ∧ R k n < p) → ∀ x, 0 ≤ sol R n pl d x ∧ sol R n pl d x < p
  | 0, _, x => ⟨Int.le_refl _, by show (0 : Int) < p; omega⟩
  | d + 1, h, x => by
    unfold sol
    split
    · exact h d (by omega)
    · exact sol_res hp (fun k hk => h k (by omega)) x

structure solW (p : Int) (u m v : Nat → Int) (a : Nat) (R : Nat → Nat → Int) (pl : Nat → Nat) (d : Nat) (o : Nat → Int) : Prop where
  hp : isP p = true
  ha : a ≤ 8
  hu : units p a u m
  has : assoc p a m
  ru : isRes p 8 u
  uz : ∀ q, q < 8 → a ≤ q → u q = 0
  mt : isTab p a m
  rf : RF p R a a pl d a
  eqv : ∀ z, sat p R a a z ↔ sat p (irow p u m v a) a a z
  yes : (∀ j, d ≤ j → j < a → R j a = 0) → o = sol R a pl d
  no : ¬(∀ j, d ≤ j → j < a → R j a = 0) → o = fun _ => 0

theorem solW.res {p : Int} {u m v : Nat → Int} {a : Nat} {R : Nat → Nat → Int} {pl : Nat → Nat} {d : Nat} {o : Nat → Int} (h : solW p u m v a R pl d o) : isRes p 8 o ∧ ∀ x, x < 8 → a ≤ x → o x = 0 := by
  have hb := isP_le h.hp
  by_cases q : ∀ j, d ≤ j → j < a → R j a = 0
  · rw [h.yes q]
    refine ⟨fun x _ => sol_res hb.1 (fun k hk => h.rf.res k a (by have := h.rf.dm; omega) (Nat.le_refl _)) x, fun x _ hx => sol_else (fun k hk => by have := h.rf.pc k hk; omega)⟩
  · rw [h.no q]
    exact ⟨fun x _ => ⟨Int.le_refl _, by (try dsimp only); omega⟩, fun x _ _ => rfl⟩

theorem solW.is {p : Int} {u m v : Nat → Int} {a : Nat} {R : Nat → Nat → Int} {pl : Nat → Nat} {d : Nat} {o : Nat → Int} (h : solW p u m v a R pl d o) (h1 : ∀ q, q < 8 → pr p m v o a q = u q) (h2 : ∀ q, q < 8 → pr p m o v a q = u q) : isIv p u m v a o :=
  ⟨h.res.1, h.res.2, h1, h2⟩

theorem solW.all {p : Int} {u m v w : Nat → Int} {a : Nat} {R : Nat → Nat → Int} {pl : Nat → Nat} {d : Nat} {o : Nat → Int} (h : solW p u m v a R pl d o) (hw : isIv p u m v a w) : ∀ q, q < 8 → o q = w q := by
  have hs : sat p R a a w := (h.eqv w).2 ((irow_sat h.ha h.ru).2 fun k hk => hw.vw k (by have := h.ha; omega))
  have h0 : ∀ j, d ≤ j → j < a → R j a = 0 := fun j h1 h2 => h.rf.solv hs h1 h2
  have hr := h.res
  have ho := h.yes h0
  have h1 := (irow_sat h.ha h.ru).1 ((h.eqv o).1 (by rw [ho]; exact sol_sat h.rf h0))
  intro q hq
  refine hw.right h.ha h.hu h.has hr.1 hr.2 (fun q hq => ?_) hq
  by_cases e : q < a
  · exact h1 q e
  · rw [pr_out h.ha h.mt _ _ hq (by omega), h.uz q hq (by omega)]

end Go.V
