/- append, copy, make. -/
import Derived.Test.YtgnphaopeplfbaaGreatDoorJai
set_option linter.unusedSectionVars false
set_option linter.unusedVariables false
set_option linter.unusedSimpArgs false
namespace Go.V
variable [BW]
set_option linter.unusedSimpArgs false
set_option linter.unusedVariables false

section
variable {P : Program} {N m : Nat} {d : Option Nat} {l : List Ins} {e : Env} {H : Hp} {n : Nat} {K : Env → Hp → Nat → Prop}

/-- What a slice value shows: len elements of z cells each, the cells c; room for cap. -/
def sliceV (H : Hp) (z : Nat) (v : SV) (len cap : Nat) (c : Nat → SV) : Prop :=
  (v = .nils ∧ len = 0 ∧ cap = 0) ∨ ∃ b o k, v = .slc b o len cap ∧ H.get b = some k ∧ o + cap * z ≤ k.size ∧ len ≤ cap ∧ ∀ i, i < len * z → k.c (o + i) = c i

theorem growBy_le (nl : Nat) : ∀ (r c B : Nat), c ≤ nl → Builtin.growBy nl r c ≤ 2 * nl + 768 := by
  intro r
  induction r with
  | zero => intro c B h; simp [Builtin.growBy]; omega
  | succ r ih =>
    intro c B h
    simp only [Builtin.growBy]
    split
    · omega
    · by_cases h2 : c + (c + 768) / 4 ≤ nl
      · exact ih _ B h2
      · -- one step past the mark: the next round stops
        cases r with
        | zero => simp only [Builtin.growBy]; omega
        | succ r => simp only [Builtin.growBy]; rw [if_pos (by omega)]; omega

theorem nextslicecap_le (nl oc : Nat) (h : oc ≤ nl) : Builtin.nextslicecap nl oc ≤ 2 * nl + 768 := by
  unfold Builtin.nextslicecap
  split
  · omega
  · split
    · omega
    · exact growBy_le nl 4 oc 0 h

theorem run_zeroCells {t : TypeId} {z : Zs} (hz : zOf P t = some z) (k : Nat) (w : World) :
    ∃ v, (zeroValue t).run P w = .ok v w ∧ v.cells = arrC z.size z.c ∧ (0 < z.size → Builtin.zeroCells v.cells k = arrC (k * z.size) (fun i => z.c (i % z.size))) := by
  obtain ⟨i, v, hi, hv, hc, hs⟩ := zOf_spec hz
  refine ⟨v, by simp [zeroValue, typeInfo, hi, hv], hc, fun h0 => ?_⟩
  rw [hc]
  unfold Builtin.zeroCells
  apply arrC_ext
  · simp
  · intro j hj
    have hj' : j < k * (arrC z.size z.c).size := by simpa using hj
    have hr : (Array.range (k * (arrC z.size z.c).size))[j]? = some j := by
      rw [Array.getElem?_eq_some_iff]; exact ⟨by simpa using hj', by simp⟩
    have hg := arrC_get z.size z.c (j % z.size) (Nat.mod_lt _ h0)
    rw [Array.getElem?_map, hr]
    simp [getElem!_def, hg]

theorem run_firstCells {w0 w : World} {z len cap : Nat} {v : SV} {c : Nat → SV} (hw : Mem w0 H n w) (hs : sliceV H z v len cap c) :
    (Builtin.firstCells z len v.conc).run P w = .ok (arrC (len * z) c) w := by
  rcases hs with ⟨rfl, rfl, rfl⟩ | ⟨b, o, k, rfl, hb, ho, hl, hc⟩
  · simp only [SV.conc, Builtin.firstCells, Sem.run_pure]
    congr 1
    apply arrC_ext <;> simp
  · simp only [SV.conc, Builtin.firstCells]
    have : len * z ≤ cap * z := Nat.mul_le_mul_right _ hl
    rw [run_loadCells hw hb _ (by omega)]
    congr 1
    apply arrC_ext
    · simp
    · intro i hi
      rw [arrC_get _ _ _ hi, hc i hi]

theorem run_lenOf {z len cap : Nat} {v : SV} {c : Nat → SV} (hs : sliceV H z v len cap c) (w : World) : (Builtin.lenOf v.conc).run P w = .ok len w := by
  rcases hs with ⟨rfl, rfl, rfl⟩ | ⟨b, o, k, rfl, hb, ho, hl, hc⟩ <;> simp [SV.conc, Builtin.lenOf]

/-- The cells of a slice with more behind it. -/
def joinC (a : Nat) (c d : Nat → SV) : Nat → SV := fun i => if i < a then c i else d (i - a)

theorem args_two {l : Array Operand} {x y : X} (h : l.toList.mapM trX = some [x, y]) : ∃ a b, l = #[a, b] ∧ trX a = some x ∧ trX b = some y := by
  obtain ⟨l⟩ := l
  dsimp only at h
  obtain ⟨a, r, rfl, ha, hr⟩ := mapM_cons_inv h
  obtain ⟨b, r2, rfl, hb, hr2⟩ := mapM_cons_inv hr
  cases r2 with
  | nil => exact ⟨a, b, rfl, ha, hb⟩
  | cons q r2 =>
    simp only [List.mapM_cons, bind, Option.bind_eq_some_iff, Pure.pure, Option.some.injEq] at hr2
    obtain ⟨_, _, _, _, h⟩ := hr2
    cases h

/-- append of a slice: in place where there is room, else in a new block of any capacity that is enough. -/
theorem run_app {t : TypeId} {sz bytes : Nat} {z : Zs} {x y : X} {u v : SV} {len cap len2 cap2 : Nat} {c c2 : Nat → SV}
    (hx : x.ev e = some (.s u)) (hy : y.ev e = some (.s v)) (hu : sliceV H sz u len cap c) (hv : sliceV H sz v len2 cap2 c2)
    (hb : (2 * (len + len2) + 768) * bytes ≤ 2 ^ 48) (hb2 : len + len2 ≤ 2 ^ 62)
    (h1 : len + len2 ≤ cap → (∀ b o k, u = .slc b o len cap → H.get b = some k → K (putD d (.s (.slc b o (len + len2) cap)) e) (H.set b (splice k.c (o + len * sz) (len2 * sz) c2)) n) ∧ (u = .nils → K (putD d (.s .nils) e) H n))
    (h2 : cap < len + len2 → ∀ cap', len + len2 ≤ cap' → K (putD d (.s (.slc n 0 (len + len2) cap')) e) ((n, ⟨cap' * sz, joinC ((len + len2) * sz) (joinC (len * sz) c c2) (fun i => z.c (i % sz)), t⟩) :: H) (n + 1)) :
    ∀ (o : Oper), trI P o.type o.op = some (.app t sz bytes z x y) → ∀ w0 w a, Mem w0 H n w → Ag N e a →
      ∃ v H' n' w', (execOp a.eval o).run P w = .ok (.value v) w' ∧ n ≤ n' ∧ Mem w0 H' n' w' ∧ ∃ u : AV, v = u.conc ∧ K (putD d u e) H' n' := by
  intro o ht w0 w a hw hag
  obtain ⟨dst, op, ty, pos, after, guard⟩ := o
  dsimp only at ht
  obtain ⟨cc, t0, t1, el1, i, rfl, hcal, hargs, ht0, ht1, hd0, hd1, hi, rfl, rfl, hs0, hby0, hz⟩ := inv_app ht
  obtain ⟨xo, yo, hcargs, hxo, hyo⟩ := args_two hargs
  have e1 := trX_eval hag hxo hx
  have e2 := trX_eval hag hyo hy
  have hzs : z.size = i.size := by
    obtain ⟨i', v', hi', _, _, hs'⟩ := zOf_spec hz
    rw [hi] at hi'; cases hi'; exact hs'.symm
  obtain ⟨zv, hzr, hzc, hzz⟩ := run_zeroCells hz (0) w
  have hex : (execOp a.eval ⟨dst, .call cc, ty, pos, after, guard⟩) = (do let r ← Builtin.append_ cc.argTypes ty #[u.conc, v.conc]; Pure.pure (Next.value r) : Sem Next) := by
    simp only [execOp, resolve, hcal]
    simp only [hcargs, e1, e2, AV.conc]
    simp [hcargs, e1, e2, AV.conc, invoke, builtin]
  rw [hex]
  have hsz : ∀ w : World, (sizeOf t).run P w = .ok i.size w := fun w => by simp [sizeOf, typeInfo, hi]
  have hti : ∀ w : World, (typeInfo t).run P w = .ok i w := fun w => by simp [typeInfo, hi]
  have hlen := run_lenOf (P := P) hv w
  have hfu := run_firstCells (P := P) hw hu
  have hfv := run_firstCells (P := P) hw hv
  have hdes : ∃ base, u.conc = .slice base len cap ∧ (match base with | none => u = .nils ∧ len = 0 ∧ cap = 0 | some ad => ∃ b o, ad = ⟨b, o, none⟩ ∧ u = .slc b o len cap) := by
    rcases hu with ⟨rfl, rfl, rfl⟩ | ⟨b, o, k, rfl, hb, ho, hl, hc⟩
    · exact ⟨none, rfl, rfl, rfl, rfl⟩
    · exact ⟨some ⟨b, o, none⟩, rfl, b, o, rfl, rfl⟩
  obtain ⟨base, hbase, hbm⟩ := hdes
  by_cases hroom : len + len2 ≤ cap
  · obtain ⟨h1a, h1b⟩ := h1 hroom
    cases base with
    | none =>
      obtain ⟨rfl, rfl, rfl⟩ := hbm
      have hl2 : len2 = 0 := by omega
      subst hl2
      refine ⟨SV.nils.conc, H, n, w, ?_, Nat.le_refl _, hw, .s .nils, rfl, h1b rfl⟩
      refine run_v' ?_
      simp [Builtin.append_, ht0, ht1, run_underlying hd0, run_underlying hd1, hbase, hsz, hlen, hfv, SV.conc]
    | some ad =>
      obtain ⟨b, o, rfl, rfl⟩ := hbm
      have hu' := hu
      rcases hu' with ⟨h, _⟩ | ⟨b', o', k, h, hbk, ho, hl, hc⟩
      · cases h
      · cases h
        have hle : len * i.size + len2 * i.size ≤ cap * i.size := by rw [← Nat.add_mul]; exact Nat.mul_le_mul_right _ hroom
        obtain ⟨w', hr, hm⟩ := run_storeArr (P := P) (off := o + len * i.size) (m := len2 * i.size) (d := c2) hw hbk (by omega)
        refine ⟨(SV.slc b o (len + len2) cap).conc, _, n, w', ?_, Nat.le_refl _, hm, .s (.slc b o (len + len2) cap), rfl, h1a b o k rfl hbk⟩
        refine run_v' ?_
        simp [Builtin.append_, ht0, ht1, run_underlying hd0, run_underlying hd1, hbase, hsz, hlen, hfv, hroom, addr_add, hr, SV.conc]
  · have hroom' : cap < len + len2 := by omega
    have hcap := nextslicecap_le (len + len2) cap (by omega)
    have hnb : ¬ (Builtin.nextslicecap (len + len2) cap * i.bytes > 2 ^ 48) := by
      have := Nat.mul_le_mul_right i.bytes hcap
      omega
    have hov : ¬ (((len + len2 : Nat) : Int) > IntKind.i64.max ∧ (False ∨ i.bytes = 0)) := by rintro ⟨_, h⟩; rcases h with h | h; exact h; omega
    obtain ⟨q, hq⟩ : ∃ q, q = (Question.appendCap (len + len2) cap t).cut (w.tape w.drawn (.appendCap (len + len2) cap t)) := ⟨_, rfl⟩
    have hql : len + len2 ≤ q := by rw [hq]; simp only [Question.cut]; omega
    have hwd : Mem w0 H n w.drew := hw.drew (w.drawn + 1)
    have hwp := hwd.push ⟨q * i.size, joinC ((len + len2) * i.size) (joinC (len * i.size) c c2) (fun j => z.c (j % i.size)), t⟩
    refine ⟨(SV.slc n 0 (len + len2) q).conc, _, n + 1, _, ?_, by omega, hwp, .s (.slc n 0 (len + len2) q), rfl, h2 hroom' q hql⟩
    refine run_v' ?_
    have hfu' := run_firstCells (P := P) hwd hu
    have hfv' := run_firstCells (P := P) hwd hv
    obtain ⟨zv', hzr', hzc', hzz'⟩ := run_zeroCells hz (q - (len + len2)) w.drew
    have hzz'' := hzz' (by omega)
    have hnr := run_newRow (P := P) hwd ⟨q * i.size, joinC ((len + len2) * i.size) (joinC (len * i.size) c c2) (fun j => z.c (j % i.size)), t⟩
    have hcells : arrC (len * i.size) c ++ arrC (len2 * i.size) c2 ++ Builtin.zeroCells zv'.cells (q - (len + len2)) = arrC (q * i.size) (joinC ((len + len2) * i.size) (joinC (len * i.size) c c2) (fun j => z.c (j % i.size))) := by
      rw [hzz'', hzs]
      have hmul : (q - (len + len2)) * i.size + (len + len2) * i.size = q * i.size := by rw [← Nat.add_mul]; congr 1; omega
      have hmul2 : (len + len2) * i.size = len * i.size + len2 * i.size := Nat.add_mul _ _ _
      apply arrC_ext
      · simp; omega
      · intro j hj
        simp only [joinC]
        rw [Array.getElem?_append, Array.getElem?_append]
        simp only [Array.size_append, arrC_size]
        by_cases h1 : j < len * i.size
        · rw [if_pos (by omega), if_pos h1, arrC_get _ _ _ h1, if_pos (by omega), if_pos h1]
        · by_cases h3 : j < len * i.size + len2 * i.size
          · rw [if_pos h3, if_neg h1, arrC_get _ _ _ (by omega), if_pos (by omega), if_neg h1]
          · rw [if_neg h3, arrC_get _ _ _ (by omega), if_neg (by omega)]
            rw [hmul2]
    dsimp only at hnr
    have hforced : (Question.appendCap (len + len2) cap t).forced = false := rfl
    have hch : (choose (Question.appendCap (len + len2) cap t)).run P w = .ok q w.drew := by
      rw [hq]; simp [choose, Sem.run, hforced]
    have hmax : ¬ ((len : Int) + (len2 : Int) > IntKind.i64.max) := by rw [IntKind.max_i64]; omega
    have hmax' : ¬ (9223372036854775807 < (len : Int) + (len2 : Int)) := by omega
    have hnb' : ¬ (281474976710656 < Builtin.nextslicecap (len + len2) cap * i.bytes) := by simpa using hnb
    rw [hbase] at hfu'
    rw [Array.append_assoc] at hcells
    simp [-run_choose, Builtin.append_, ht0, ht1, run_underlying hd0, run_underlying hd1, hbase, hsz, hlen, hroom, hti, hmax', hnb', hch, hfu', hfv', hzr', hcells, hnr, SV.conc]

theorem IS.app {t : TypeId} {sz bytes : Nat} {z : Zs} {x y : X} {u v : SV} {len cap len2 cap2 : Nat} {c c2 : Nat → SV}
    (hx : x.ev e = some (.s u)) (hy : y.ev e = some (.s v)) (hu : sliceV H sz u len cap c) (hv : sliceV H sz v len2 cap2 c2)
    (hb : (2 * (len + len2) + 768) * bytes ≤ 2 ^ 48) (hb2 : len + len2 ≤ 2 ^ 62)
    (h1 : len + len2 ≤ cap → (∀ b o k, u = .slc b o len cap → H.get b = some k → K (putD d (.s (.slc b o (len + len2) cap)) e) (H.set b (splice k.c (o + len * sz) (len2 * sz) c2)) n) ∧ (u = .nils → K (putD d (.s .nils) e) H n))
    (h2 : cap < len + len2 → ∀ cap', len + len2 ≤ cap' → K (putD d (.s (.slc n 0 (len + len2) cap')) e) ((n, ⟨cap' * sz, joinC ((len + len2) * sz) (joinC (len * sz) c c2) (fun i => z.c (i % sz)), t⟩) :: H) (n + 1)) :
    IS P N m d (.app t sz bytes z x y) e H n K := IS.of_run (run_app hx hy hu hv hb hb2 h1 h2)

theorem RS.app {t : TypeId} {sz bytes : Nat} {z : Zs} {x y : X} {u v : SV} {len cap len2 cap2 : Nat} {c c2 : Nat → SV}
    (hx : x.ev e = some (.s u)) (hy : y.ev e = some (.s v)) (hu : sliceV H sz u len cap c) (hv : sliceV H sz v len2 cap2 c2)
    (hb : (2 * (len + len2) + 768) * bytes ≤ 2 ^ 48) (hb2 : len + len2 ≤ 2 ^ 62)
    (h1 : len + len2 ≤ cap → (∀ b o k, u = .slc b o len cap → H.get b = some k → LS P N m (.seq K) l (putD d (.s (.slc b o (len + len2) cap)) e) (H.set b (splice k.c (o + len * sz) (len2 * sz) c2)) n) ∧ (u = .nils → LS P N m (.seq K) l (putD d (.s .nils) e) H n))
    (h2 : cap < len + len2 → ∀ cap', len + len2 ≤ cap' → LS P N m (.seq K) l (putD d (.s (.slc n 0 (len + len2) cap')) e) ((n, ⟨cap' * sz, joinC ((len + len2) * sz) (joinC (len * sz) c c2) (fun i => z.c (i % sz)), t⟩) :: H) (n + 1)) :
    LS P N m (.seq K) (⟨d, none, .app t sz bytes z x y⟩ :: l) e H n := RS.step trivial (IS.app hx hy hu hv hb hb2 h1 h2)

theorem IS.mks {t : TypeId} {sz bytes : Nat} {z : Zs} {x y : X} {len cap : Nat} {kx ky : IntKind} {qx qy : Int}
    (hx : x.ev e = some (.s (.int kx qx))) (hy : y.ev e = some (.s (.int ky qy))) (hqx : qx = (len : Int)) (hqy : qy = (cap : Int)) (hl : len ≤ cap) (hb : bytes * cap ≤ 2 ^ 48) (hc : cap ≤ 2 ^ 48)
    (h : K (putD d (.s (.slc n 0 len cap)) e) ((n, ⟨cap * sz, fun i => z.c (i % sz), t⟩) :: H) (n + 1)) : IS P N m d (.mks t sz bytes z x y) e H n K := by
  subst hqx hqy
  refine IS.of_run fun o ht w0 w a hw hag => ?_
  obtain ⟨dst, op, ty, pos, after, guard⟩ := o
  dsimp only at ht
  obtain ⟨t0, l0, c0, i, rfl, hd, hi, rfl, hs0, rfl, hz, hl0, hc0⟩ := inv_mks ht
  have e1 := trX_eval hag hl0 hx
  have e2 := trX_eval hag hc0 hy
  have hzs : z.size = i.size := by
    obtain ⟨i', v', hi', _, _, hs'⟩ := zOf_spec hz
    rw [hi] at hi'; cases hi'; exact hs'.symm
  obtain ⟨i', v, hi', hv, hvc, _⟩ := zOf_spec hz
  refine ⟨_, _, _, _, ?_, Nat.le_succ _, hw.push ⟨cap * i.size, fun j => z.c (j % i.size), t⟩, _, rfl, h⟩
  simp only [execOp]
  refine run_v' ?_
  have hzr : (zeroValue t).run P w = .ok v w := by simp [zeroValue, typeInfo, hi', hv]
  have hsz : (sizeOf t).run P w = .ok i.size w := by simp [sizeOf, typeInfo, hi]
  have hti : (typeInfo t).run P w = .ok i w := by simp [typeInfo, hi]
  have hwl : IntKind.i64.wrap (len : Int) = len := IntWalk.i64_in _ (by omega)
  have hwc : IntKind.i64.wrap (cap : Int) = cap := IntWalk.i64_in _ (by omega)
  have hbi : ¬ (281474976710656 < (i.bytes : Int) * (cap : Int)) := by
    have : ((i.bytes * cap : Nat) : Int) ≤ ((2 ^ 48 : Nat) : Int) := Int.ofNat_le.2 hb
    simp only [Int.natCast_mul] at this
    omega
  have hlc : ¬ ((cap : Int) < (len : Int)) := by omega
  have hr := run_newRow (P := P) hw ⟨cap * i.size, fun j => z.c (j % i.size), t⟩
  dsimp only at hr
  have hc0' : ¬ ((cap : Int) < 0) := by omega
  have hl0' : ¬ ((len : Int) < 0) := by omega
  by_cases h0 : cap * i.size = 0
  · have hcap0 : cap = 0 := by rcases Nat.mul_eq_zero.1 h0 with h | h; exact h; exact absurd h hs0
    subst hcap0
    have : len = 0 := by omega
    subst this
    have hz0 : (#[] : Array Value) = arrC (0 * i.size) (fun j => z.c (j % i.size)) := by apply arrC_ext <;> simp
    rw [← hz0] at hr
    have hw0 : IntKind.i64.wrap 0 = 0 := by decide
    simp [hw0, Array.range_zero', Instr.makeSlice, run_underlying hd, e1, e2, AV.conc, SV.conc, asInt, asIntOf, hti, hsz, hwl, hr]
  · have hcells : ((Array.range (cap * i.size)).map fun j => v.cells[j % v.cells.size]!) = arrC (cap * i.size) (fun j => z.c (j % i.size)) := by
      rw [hvc]
      apply arrC_ext
      · simp
      · intro j hj
        have hr : (Array.range (cap * i.size))[j]? = some j := by
          rw [Array.getElem?_eq_some_iff]; exact ⟨by simpa using hj, by simp⟩
        have hlt : j % i.size < z.size := by rw [hzs]; exact Nat.mod_lt _ (by omega)
        have hg := arrC_get z.size z.c (j % i.size) hlt
        rw [Array.getElem?_map, hr]
        simp only [arrC_size, hzs] at hg ⊢
        simp [getElem!_def, hg]
    have h0' : ¬ (cap = 0 ∨ i.size = 0) := by intro h; apply h0; rcases h with h | h <;> simp [h]
    have hcell' := hcells
    simp only [getElem!_def] at hcell'
    simp [Instr.makeSlice, run_underlying hd, e1, e2, AV.conc, SV.conc, asInt, asIntOf, hti, hsz, hwl, hwc, hbi, hlc, hc0', hl0', h0, h0', hzr, hcells, hr]

theorem RS.mks {t : TypeId} {sz bytes : Nat} {z : Zs} {x y : X} {len cap : Nat} {kx ky : IntKind} {qx qy : Int}
    (hx : x.ev e = some (.s (.int kx qx))) (hy : y.ev e = some (.s (.int ky qy))) (hqx : qx = (len : Int)) (hqy : qy = (cap : Int)) (hl : len ≤ cap) (hb : bytes * cap ≤ 2 ^ 48) (hc : cap ≤ 2 ^ 48)
    (h : LS P N m (.seq K) l (putD d (.s (.slc n 0 len cap)) e) ((n, ⟨cap * sz, fun i => z.c (i % sz), t⟩) :: H) (n + 1)) : LS P N m (.seq K) (⟨d, none, .mks t sz bytes z x y⟩ :: l) e H n :=
  RS.step trivial (IS.mks hx hy hqx hqy hl hb hc h)

theorem run_cpy {sz : Nat} {x y : X} {v : SV} {b o dlen cap len2 cap2 : Nat} {k : Blk} {c2 : Nat → SV}
    (hx : x.ev e = some (.s (.slc b o dlen cap))) (hy : y.ev e = some (.s v)) (hb : H.get b = some k) (hk : o + dlen * sz ≤ k.size) (hv : sliceV H sz v len2 cap2 c2)
    (h : K (putD d (.s (.int .i64 (min len2 dlen : Nat))) e) (H.set b (splice k.c o (min len2 dlen * sz) c2)) n) :
    ∀ (o' : Oper), trI P o'.type o'.op = some (.cpy sz x y) → ∀ w0 w a, Mem w0 H n w → Ag N e a →
      ∃ v H' n' w', (execOp a.eval o').run P w = .ok (.value v) w' ∧ n ≤ n' ∧ Mem w0 H' n' w' ∧ ∃ u : AV, v = u.conc ∧ K (putD d u e) H' n' := by
  intro o' ht w0 w a hw hag
  obtain ⟨dst, op, ty, pos, after, guard⟩ := o'
  dsimp only at ht
  obtain ⟨cc, t0, el, rfl, hcal, hargs, ht0, hd0, hs⟩ := inv_cpy ht
  obtain ⟨xo, yo, hcargs, hxo, hyo⟩ := args_two hargs
  have e1 := trX_eval hag hxo hx
  have e2 := trX_eval hag hyo hy
  simp only [sizeT, Option.map_eq_some_iff] at hs
  obtain ⟨ti, hti, rfl⟩ := hs
  have hsz : (sizeOf el).run P w = .ok ti.size w := by simp [sizeOf, typeInfo, hti]
  have hlen := run_lenOf (P := P) hv w
  have hmle : min len2 dlen * ti.size ≤ dlen * ti.size := Nat.mul_le_mul_right _ (Nat.min_le_right _ _)
  have hv' : sliceV H ti.size v len2 cap2 c2 := hv
  have hf : (Builtin.firstCells ti.size (min len2 dlen) v.conc).run P w = .ok (arrC (min len2 dlen * ti.size) c2) w := by
    rcases hv with ⟨rfl, rfl, rfl⟩ | ⟨b', o', k', rfl, hb', ho', hl', hc'⟩
    · simp only [SV.conc, Builtin.firstCells, Sem.run_pure]
      congr 1
      apply arrC_ext <;> simp
    · simp only [SV.conc, Builtin.firstCells]
      have h1 : min len2 dlen * ti.size ≤ len2 * ti.size := Nat.mul_le_mul_right _ (Nat.min_le_left _ _)
      have h2 : len2 * ti.size ≤ cap2 * ti.size := Nat.mul_le_mul_right _ hl'
      rw [run_loadCells hw hb' _ (by omega)]
      congr 1
      apply arrC_ext
      · simp
      · intro j hj
        rw [arrC_get _ _ _ hj, hc' j (by omega)]
  obtain ⟨w', hr, hm⟩ := run_storeArr (P := P) (off := o) (m := min len2 dlen * ti.size) (d := c2) hw hb (by omega)
  refine ⟨_, _, _, w', ?_, Nat.le_refl _, hm, _, rfl, h⟩
  have hmin : Nat.min len2 dlen = min len2 dlen := rfl
  simp [execOp, resolve, hcal, hcargs, e1, e2, AV.conc, SV.conc, invoke, builtin, Builtin.copy_, ht0, run_underlying hd0, hlen, hsz, hmin, hf, hr, goInt]

theorem IS.cpy {sz : Nat} {x y : X} {v : SV} {b o dlen cap len2 cap2 : Nat} {k : Blk} {c2 : Nat → SV}
    (hx : x.ev e = some (.s (.slc b o dlen cap))) (hy : y.ev e = some (.s v)) (hb : H.get b = some k) (hk : o + dlen * sz ≤ k.size) (hv : sliceV H sz v len2 cap2 c2)
    (h : K (putD d (.s (.int .i64 (min len2 dlen : Nat))) e) (H.set b (splice k.c o (min len2 dlen * sz) c2)) n) : IS P N m d (.cpy sz x y) e H n K := IS.of_run (run_cpy hx hy hb hk hv h)

theorem RS.cpy {sz : Nat} {x y : X} {v : SV} {b o dlen cap len2 cap2 : Nat} {k : Blk} {c2 : Nat → SV}
    (hx : x.ev e = some (.s (.slc b o dlen cap))) (hy : y.ev e = some (.s v)) (hb : H.get b = some k) (hk : o + dlen * sz ≤ k.size) (hv : sliceV H sz v len2 cap2 c2)
    (h : LS P N m (.seq K) l (putD d (.s (.int .i64 (min len2 dlen : Nat))) e) (H.set b (splice k.c o (min len2 dlen * sz) c2)) n) : LS P N m (.seq K) (⟨d, none, .cpy sz x y⟩ :: l) e H n :=
  RS.step trivial (IS.cpy hx hy hb hk hv h)

end
end Go.V

/- Loops whose memory is not said as a list. -/
namespace Go.V
variable [BW]
set_option linter.unusedVariables false
section
variable {P : Program} {N m : Nat} {e : Env} {H : Hp} {n : Nat} {Q : Ex → Env → Hp → Nat → Prop} {c : Cd}
/-- A loop of at most cnt rounds: behind i of them the frame is E i, and J i holds of the memory. -/
theorem CS.iterJ (cnt : Nat) (E : Nat → Env) (J : Nat → Hp → Nat → Prop) (hE : EnvLe (E 0) e) (hJ : J 0 H n)
    (h : ∀ i n' H', i ≤ cnt → n ≤ n' → J i H' n' → CS P N m c (E i) H' n' (Ex.then (fun e' H2 n'' => i < cnt ∧ EnvLe (E (i + 1)) e' ∧ ∃ H1, Drops m H2 H1 ∧ J (i + 1) H1 n'') Q)) :
    CS P N m (.loop c) e H n Q := by
  refine CS.weak hE (Drops.refl _ _) ?_
  refine CS.loop (fun k e H n' => ∃ i, i ≤ cnt ∧ k = cnt - i ∧ e = E i ∧ J i H n') cnt ⟨0, Nat.zero_le _, by omega, rfl, hJ⟩ ?_
  rintro k e H n' hn ⟨i, hi, rfl, rfl, hJi⟩
  refine (h i n' H hi hn hJi).mono fun x e' H' n'' hn' hx => ?_
  cases x with
  | normal =>
    obtain ⟨h1, h2, H1, h3, h4⟩ := hx
    exact ⟨cnt - (i + 1), E (i + 1), H1, by omega, h2, h3, i + 1, by omega, rfl, rfl, h4⟩
  | exit id => exact hx
  | ret => exact hx
/-- Below m nothing has changed, and what is new is forgotten. -/
theorem Drops.low {m : Nat} {H H' : Hp} (hf : ∀ b, m ≤ b → H.get b = none) (h : ∀ b, b < m → H'.get b = H.get b) : Drops m H' H := by
  intro b
  by_cases e : b < m
  · have := h b e
    cases hb : H.get b with
    | none => rw [hb] at this; exact .inl ⟨rfl, .inl this⟩
    | some k => rw [hb] at this; exact .inr ⟨k, k, this, rfl, rfl, rfl, fun _ _ => rfl⟩
  · exact .inl ⟨hf b (by omega), .inr (by omega)⟩
end
end Go.V

/- Two new blocks, made in either order. -/
namespace Go.V
variable [BW]
set_option linter.unusedVariables false
section
variable {P : Program} {N m : Nat} {e : Env} {H : Hp} {n : Nat} {Q : Ex → Env → Hp → Nat → Prop} {c : Cd}
theorem Drops.swap {b1 b2 : Nat} {k1 k2 : Blk} (hb : b1 ≠ b2) : Drops m ((b2, k2) :: (b1, k1) :: H) ((b1, k1) :: (b2, k2) :: H) := by
  intro b
  by_cases e1 : b1 = b
  · subst e1; rw [Hp.get_ne _ _ (fun h => hb h.symm), Hp.get_eq, Hp.get_eq]; exact .inr ⟨_, _, rfl, rfl, rfl, rfl, fun _ _ => rfl⟩
  · by_cases e2 : b2 = b
    · subst e2; rw [Hp.get_eq, Hp.get_ne _ _ e1, Hp.get_eq]; exact .inr ⟨_, _, rfl, rfl, rfl, rfl, fun _ _ => rfl⟩
    · rw [Hp.get_ne _ _ e2, Hp.get_ne _ _ e1, Hp.get_ne _ _ e1, Hp.get_ne _ _ e2]
      exact Drops.refl m H b
theorem MTW.two {F : Hp} {ll : List Ins} {i1 i2 i3 i4 d1 d2 s1 s2 k1 k2 : Nat} {t1 t2 : TypeId} {z1 z2 : Zs} {c1 c2 : Nat → SV} (E : Nat → Nat → Env)
    (h1 : pick [i1, i2, i3, i4] ll = [⟨some d1, none, .new t1 z1⟩, ⟨some d2, none, .new t2 z2⟩, ⟨none, none, .st k1 (.t d1) (.t s1)⟩, ⟨none, none, .st k2 (.t d2) (.t s2)⟩])
    (h2 : pick [i2, i1, i3, i4] ll = [⟨some d2, none, .new t2 z2⟩, ⟨some d1, none, .new t1 z1⟩, ⟨none, none, .st k1 (.t d1) (.t s1)⟩, ⟨none, none, .st k2 (.t d2) (.t s2)⟩])
    (hx1 : e.get s1 = some (.arr k1 c1)) (hx2 : e.get s2 = some (.arr k2 c2)) (hd : d1 ≠ d2) (hs : s1 ≠ d1 ∧ s1 ≠ d2 ∧ s2 ≠ d1 ∧ s2 ≠ d2) (hz1 : z1.size = k1) (hz2 : z2.size = k2)
    (hE1 : ∀ b1 b2, EnvLe (E b1 b2) (putD (some d2) (ptr b2 0) (putD (some d1) (ptr b1 0) e))) (hE2 : ∀ b1 b2, EnvLe (E b1 b2) (putD (some d1) (ptr b1 0) (putD (some d2) (ptr b2 0) e)))
    (h : ∀ b1 b2 n', n ≤ b1 → n ≤ b2 → b1 ≠ b2 → H.get b1 = none → H.get b2 = none → b1 < n' → b2 < n' → n ≤ n' → CS P N m c (E b1 b2) ((b1, ⟨k1, c1, t1⟩) :: (b2, ⟨k2, c2, t2⟩) :: H) n' Q) :
    MTW P N m F n ll (.fork (.seg i1 (.seg i2 (.seg i3 (.seg i4 .done)))) (.seg i2 (.seg i1 (.seg i3 (.seg i4 .done))))) e H
      fun e3 H3 => ∀ n', n ≤ n' → (∀ b k, H3.get b = some k → b < n') → Ex.then (fun e' H' n' => CS P N m c e' H' n' Q) Q .normal e3 H3 n' := by
  obtain ⟨q1, q2, q3, q4⟩ := hs
  have go : ∀ {E' : Env} {H3 : Hp} (b1 b2 : Nat), n ≤ b1 → n ≤ b2 → b1 ≠ b2 → H.get b1 = none → H.get b2 = none → EnvLe (E b1 b2) E' → Drops m H3 ((b1, ⟨k1, c1, t1⟩) :: (b2, ⟨k2, c2, t2⟩) :: H) → (∃ k, H3.get b1 = some k) → (∃ k, H3.get b2 = some k) →
      ∀ n', n ≤ n' → (∀ b k, H3.get b = some k → b < n') → CS P N m c E' H3 n' Q := by
    intro E' H3 b1 b2 a1 a2 a3 a4 a5 a6 a7 a8 a9 n' hn hl
    obtain ⟨x1, a8⟩ := a8
    obtain ⟨x2, a9⟩ := a9
    exact CS.weak a6 a7 (h b1 b2 n' a1 a2 a3 a4 a5 (hl _ _ a8) (hl _ _ a9) hn)
  refine MTW.fork (MTW.seg ?_) (MTW.seg ?_)
  · rw [show OT.os (.seg i1 (.seg i2 (.seg i3 (.seg i4 .done)))) = [i1, i2, i3, i4] from rfl, h1]
    refine MS.new fun b1 hb1 f1 => MS.new fun b2 hb2 f2 => ?_
    have hne : b1 ≠ b2 := by intro q; subst q; rw [Hp.get_eq] at f2; cases f2
    rw [Hp.get_ne _ _ hne] at f2
    refine MS.stx (b := b1) (off := 0) (k := ⟨z1.size, z1.c, t1⟩) (c := c1) (c' := c1) ?_ ?_ (by rw [Hp.get_ne _ _ (fun q => hne q.symm), Hp.get_eq]) (by dsimp only; omega) hb1 (fun i hi => by dsimp only at hi; unfold splice; rw [if_pos (by omega)]; simp) ?_
    · show Env.get ((d2, ptr b2 0) :: (d1, ptr b1 0) :: e) d1 = _
      rw [Env.get_cons, if_neg (fun q => hd q.symm), Env.get_cons, if_pos rfl]
    · show Env.get ((d2, ptr b2 0) :: (d1, ptr b1 0) :: e) s1 = _
      rw [Env.get_cons, if_neg (fun q => q2 q.symm), Env.get_cons, if_neg (fun q => q1 q.symm), hx1]
    refine MS.stx (b := b2) (off := 0) (k := ⟨z2.size, z2.c, t2⟩) (c := c2) (c' := c2) ?_ ?_ (by rw [Hp.get_set_other _ hne, Hp.get_eq]) (by dsimp only; omega) hb2 (fun i hi => by dsimp only at hi; unfold splice; rw [if_pos (by omega)]; simp) ?_
    · show Env.get ((d2, ptr b2 0) :: (d1, ptr b1 0) :: e) d2 = _
      rw [Env.get_cons, if_pos rfl]
    · show Env.get ((d2, ptr b2 0) :: (d1, ptr b1 0) :: e) s2 = _
      rw [Env.get_cons, if_neg (fun q => q4 q.symm), Env.get_cons, if_neg (fun q => q3 q.symm), hx2]
    rw [Hp.set_ne _ _ _ (fun q => hne q.symm), Hp.set_eq, Hp.set_eq]
    subst hz1 hz2
    refine MS.nil (MTW.done ?_)
    exact go b1 b2 hb1 hb2 hne f1 f2 (hE1 b1 b2) (Drops.swap hne) ⟨_, by rw [Hp.get_ne _ _ (fun q => hne q.symm), Hp.get_eq]⟩ ⟨_, Hp.get_eq _ _ _⟩
  · rw [show OT.os (.seg i2 (.seg i1 (.seg i3 (.seg i4 .done)))) = [i2, i1, i3, i4] from rfl, h2]
    refine MS.new fun b2 hb2 f2 => MS.new fun b1 hb1 f1 => ?_
    have hne : b1 ≠ b2 := by intro q; subst q; rw [Hp.get_eq] at f1; cases f1
    rw [Hp.get_ne _ _ (fun q => hne q.symm)] at f1
    refine MS.stx (b := b1) (off := 0) (k := ⟨z1.size, z1.c, t1⟩) (c := c1) (c' := c1) ?_ ?_ (Hp.get_eq _ _ _) (by dsimp only; omega) hb1 (fun i hi => by dsimp only at hi; unfold splice; rw [if_pos (by omega)]; simp) ?_
    · show Env.get ((d1, ptr b1 0) :: (d2, ptr b2 0) :: e) d1 = _
      rw [Env.get_cons, if_pos rfl]
    · show Env.get ((d1, ptr b1 0) :: (d2, ptr b2 0) :: e) s1 = _
      rw [Env.get_cons, if_neg (fun q => q1 q.symm), Env.get_cons, if_neg (fun q => q2 q.symm), hx1]
    refine MS.stx (b := b2) (off := 0) (k := ⟨z2.size, z2.c, t2⟩) (c := c2) (c' := c2) ?_ ?_ (by rw [Hp.get_set_other _ hne, Hp.get_ne _ _ hne, Hp.get_eq]) (by dsimp only; omega) hb2 (fun i hi => by dsimp only at hi; unfold splice; rw [if_pos (by omega)]; simp) ?_
    · show Env.get ((d1, ptr b1 0) :: (d2, ptr b2 0) :: e) d2 = _
      rw [Env.get_cons, if_neg hd, Env.get_cons, if_pos rfl]
    · show Env.get ((d1, ptr b1 0) :: (d2, ptr b2 0) :: e) s2 = _
      rw [Env.get_cons, if_neg (fun q => q3 q.symm), Env.get_cons, if_neg (fun q => q4 q.symm), hx2]
    rw [Hp.set_eq, Hp.set_ne _ _ _ hne, Hp.set_eq]
    subst hz1 hz2
    refine MS.nil (MTW.done ?_)
    exact go b1 b2 hb1 hb2 hne f1 f2 (hE2 b1 b2) (Drops.refl _ _) ⟨_, Hp.get_eq _ _ _⟩ ⟨_, by rw [Hp.get_ne _ _ hne, Hp.get_eq]⟩
end
end Go.V
namespace Go.V
variable [BW]
set_option linter.unusedSimpArgs false
set_option linter.unusedVariables false
section
variable {P : Program}
theorem wp_region_ordF {n m : Nat} {eff : Nat → Bool} {K : Act → Hp → Prop} {ops : Array Oper} {id : Nat} {Q : Exit → Act → World → Prop} {a : Act} {w0 w : World} {H F : Hp} {ks : List Nat} (hF : Ext F H) (hm : P.follows .mixedOrders = true) (hs : Region.noSelect ops = true)
    (hB : ordB .any ops eff ks (Array.replicate ops.size false) = true) (hl : ks.length = ops.size)
    (hsz : w0.heap.size ≤ m) (hw : Mem w0 H n w) (hK : ∀ a Hc n' w, K a Hc → n ≤ n' → Mem w0 Hc n' w → Q .normal a w)
    (h : wpO P ops n m eff (fun a Hc _ => K a Hc) ks a H F) : (Code.region id ops true).wp P Q a w := by
  refine wp_region_any hm ?_
  have key := ord_walk (md := .any) hs ks (Array.replicate ops.size false) a H F hB h
  rw [hl] at key
  exact wpAny_of_ord (w0 := w0) hsz hK _ _ _ H F n _ (Nat.le_refl _) hF (hw.drew _) key
theorem Ext.nil (H : Hp) : Ext [] H := fun b k h => absurd h (by simp [Hp.get])
/-- Operations that read no memory at any time, the others one after the other, whatever they do. -/
def OE (P : Program) (N m : Nat) (l : List Ins) (e : Env) (H : Hp) (n : Nat) (K : Env → Hp → Prop) : Prop :=
  ∀ (ops : Array Oper) (ks : List Nat) (eff : Nat → Bool), OMatch P N ops eff isCall ks l → ∀ (a : Act) (Ka : Act → Hp → Hp → Prop), Ag N e a →
    (∀ e' a' H', K e' H' → Ag N e' a' → Ka a' H' []) → wpO P ops n m eff Ka ks a H []
theorem OE.nil {N m : Nat} {e : Env} {H : Hp} {n : Nat} {K : Env → Hp → Prop} (h : K e H) : OE P N m [] e H n K := by
  intro ops ks eff hm a Ka hag hK
  cases ks with
  | nil => exact hK _ _ _ h hag
  | cons k ks => exact hm.elim
theorem OE.pure {N m : Nat} {d : Option Nat} {i : I} {l : List Ins} {e : Env} {H : Hp} {n : Nat} {K : Env → Hp → Prop}
    (h : PV i e [] fun v => OE P N m l (putD d v e) H n K) : OE P N m (⟨d, none, i⟩ :: l) e H n K := by
  intro ops ks eff hm a Ka hag hK
  cases ks with
  | nil => exact hm.elim
  | cons k ks =>
    obtain ⟨⟨o, ho, htr, hef⟩, hm2⟩ := hm
    obtain ⟨h1, h2, h3, h4⟩ := trOp_spec htr
    obtain ⟨v, hv, hrun⟩ := pv_sound hag h1 h
    unfold wpO kOpO
    simp only [ho]
    rw [if_pos (wanted_none h4), if_neg (by rw [hef, PV_pure h]; simp)]
    refine ⟨v.conc, fun w0 w ⟨n', hn, hw⟩ => ?_, hv ops ks eff hm2 _ Ka (by rw [h2]; exact hag.putD h3 v) hK⟩
    unfold Oper.quietAt
    rw [hrun _ _ _ hw]
    exact ⟨rfl, rfl⟩
theorem OE.call {N m : Nat} {d : Option Nat} {f : FuncId} {args : List X} {l : List Ins} {e : Env} {H : Hp} {n : Nat} {K : Env → Hp → Prop} {vs : List AV} {R : AV → Hp → Prop}
    (hv : evs e args = some vs) (hf : ∀ n', n ≤ n' → (∀ b k, H.get b = some k → b < n') → FnS P f vs H n' fun r H' n'' => R r H')
    (h : ∀ r H', R r H' → OE P N m l (putD d r e) H' n K) : OE P N m (⟨d, none, .call f args⟩ :: l) e H n K := by
  intro ops ks eff hm a Ka hag hK
  cases ks with
  | nil => exact hm.elim
  | cons k ks =>
    obtain ⟨⟨o, ho, htr, hef⟩, hm2⟩ := hm
    obtain ⟨h1, h2, h3, h4⟩ := trOp_spec htr
    unfold wpO kOpO
    simp only [ho]
    rw [if_pos (wanted_none h4), if_pos (by rw [hef]; rfl)]
    intro w0 w n' q1 q2 q3
    obtain ⟨dst, op, ty, pos, after, guard⟩ := o
    dsimp only at h1 h2 h3
    obtain ⟨c, rfl, hcal, hargs⟩ := inv_call h1
    have e1 := evs_spec hag _ _ _ hargs hv
    have e1' : c.args.map a.eval = (AV.concs vs).toArray := Array.toList_inj.1 (by rw [Array.toList_map]; exact e1)
    refine .inr ⟨f, (AV.concs vs).toArray, ?_, ((hf n' q1 fun b k hb => q3.lt hb).2 w0 w q3).mono ?_⟩
    · simp [execOp, resolve, hcal, Act.eval, Deferred.ofValue, invoke, run_callFunc (hf n' q1 fun b k hb => q3.lt hb).1, e1']
    · rintro e' w' ⟨r, H', n2, rfl, hn2, hm', hR⟩
      exact ⟨r.conc, H', [], n2, rfl, hn2, hm', Ext.refl _, Ext.nil _, h r H' hR ops ks eff hm2 _ Ka (by rw [h2]; exact hag.putD h3 r) hK⟩
theorem OE.cpy {N m : Nat} {d : Option Nat} {l : List Ins} {e : Env} {H : Hp} {n : Nat} {K : Env → Hp → Prop} {sz : Nat} {x y : X} {v : SV} {b o dlen cap len2 cap2 : Nat} {k : Blk} {c2 : Nat → SV}
    (hx : x.ev e = some (.s (.slc b o dlen cap))) (hy : y.ev e = some (.s v)) (hb : H.get b = some k) (hk : o + dlen * sz ≤ k.size) (hv : sliceV H sz v len2 cap2 c2)
    (h : OE P N m l (putD d (.s (.int .i64 (min len2 dlen : Nat))) e) (H.set b (splice k.c o (min len2 dlen * sz) c2)) n K) : OE P N m (⟨d, none, .cpy sz x y⟩ :: l) e H n K := by
  intro ops ks eff hm a Ka hag hK
  cases ks with
  | nil => exact hm.elim
  | cons k ks =>
    obtain ⟨⟨o, ho, htr, hef⟩, hm2⟩ := hm
    obtain ⟨h1, h2, h3, h4⟩ := trOp_spec htr
    unfold wpO kOpO
    simp only [ho]
    rw [if_pos (wanted_none h4), if_pos (by rw [hef]; rfl)]
    intro w0 w n' q1 q2 q3
    obtain ⟨vv, H', n2, w', hrun, hn2, hm', u, rfl, hk2⟩ := run_cpy (K := fun e' H' _ => OE P N m l e' H' n K) hx hy hb hk hv h o h1 w0 w a q3 hag
    exact .inl ⟨_, w', H', [], n2, .inl hrun, hn2, hm', Ext.refl _, Ext.nil _, hk2 ops ks eff hm2 _ Ka (by rw [h2]; exact hag.putD h3 u) hK⟩
theorem CS.ordE {N m : Nat} {q : Bool} {ks os : List Nat} {l : List Ins} {e : Env} {H : Hp} {n : Nat} {Q : Ex → Env → Hp → Nat → Prop}
    (h : OE P N m (pick os l) e H n fun e2 H2 => ∀ n', n ≤ n' → (∀ b k, H2.get b = some k → b < n') → Q .normal e2 H2 n') : CS P N m (.drwo q ks os l) e H n Q := by
  intro code hc w0 w a Q' hm hw hag hQ
  obtain ⟨id, ops, rfl, hl, hf, hq, hks, hB⟩ := inv_drwo hc
  simp only [ordOk, Bool.and_eq_true, decide_eq_true_eq] at hB
  obtain ⟨⟨⟨h1, h2⟩, h3⟩, h4⟩ := hB
  have hos : ∀ k ∈ os, k < ops.size := fun k hk => by simpa only [decide_eq_true_eq] using List.all_eq_true.1 h4 k hk
  refine wp_region_ordF (F := []) (K := fun a Hc => ∃ e2, Ag N e2 a ∧ ∀ n', n ≤ n' → (∀ b k, Hc.get b = some k → b < n') → Q .normal e2 Hc n') (Ext.nil _) hf h1 h2 h3 hm hw
    (fun a Hc n' w ⟨e2, hag2, hk⟩ hn hw' => hQ .normal e2 Hc n' a w (hk n' hn fun b k hb => hw'.lt hb) hn hag2 hw') ?_
  exact h ops os (effL l) (omatch_of hl os hos) a _ hag fun e2 a2 H2 hk2 hag2 => ⟨e2, hag2, hk2⟩
end
end Go.V
