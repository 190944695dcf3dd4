/- Calls by what they do to memory, single operations, lists of operations. -/
import Derived.Test.YtdellpnmbgjofaaVE
namespace Go.V
set_option linter.unusedSimpArgs false
set_option linter.unusedVariables false

section
variable {P : Program}

/-- A Go function with a body. -/
def Callable (P : Program) (f : FuncId) : Prop := ∃ fn, P.funcs[f]? = some fn ∧ fn.body.isSome = true ∧ (fn.name == "runtime.NumGoroutine") = false

/-- The function, called in a memory H of n blocks, returns v and leaves H', with R. -/
def FnS (P : Program) (f : FuncId) (args : List AV) (H : Hp) (n : Nat) (R : AV → Hp → Nat → Prop) : Prop :=
  Callable P f ∧ ∀ w0 w, Mem w0 H n w → Calls P f (AV.concs args).toArray w fun e w' => ∃ v H' n', e = .returned v.conc ∧ n ≤ n' ∧ Mem w0 H' n' w' ∧ R v H' n'

theorem FnS.mono {f : FuncId} {args : List AV} {H : Hp} {n : Nat} {R R' : AV → Hp → Nat → Prop} (h : FnS P f args H n R) (hr : ∀ v H' n', n ≤ n' → R v H' n' → R' v H' n') : FnS P f args H n R' :=
  ⟨h.1, fun w0 w hw => (h.2 w0 w hw).mono fun e w' ⟨v, H', n', he, hn, hm, hR⟩ => ⟨v, H', n', he, hn, hm, hr _ _ _ hn hR⟩⟩

def putD (d : Option Nat) (v : AV) (e : Env) : Env :=
  match d with
  | none => e
  | some t => e.put t v

theorem Ag.putD {N : Nat} {e : Env} {a : Act} (h : Ag N e a) {d : Option Nat} (hd : ∀ t, d = some t → t < N) (v : AV) : Ag N (putD d v e) (a.put d v.conc) := by
  cases d with
  | none => exact h
  | some t => exact h.put (hd t rfl) v

/-- One operation. -/
def IS (P : Program) (N m : Nat) (d : Option Nat) (i : I) (e : Env) (H : Hp) (n : Nat) (K : Env → Hp → Nat → Prop) : Prop :=
  ∀ (o : Oper), trI P o.type o.op = some i → o.dst = d → (∀ t, d = some t → t < N) → ∀ (w0 w : World) (a : Act) (Q : Exit → Act → World → Prop) (K' : Act → World → Prop),
    w0.heap.size ≤ m → Mem w0 H n w → Ag N e a → (∀ e' H' n' a' w', K e' H' n' → n ≤ n' → Ag N e' a' → Mem w0 H' n' w' → K' a' w') → o.wp P a w K' Q

theorem IS.pure {N m : Nat} {d : Option Nat} {i : I} {e : Env} {H : Hp} {n : Nat} {K : Env → Hp → Nat → Prop} (h : PV i e H fun v => K (putD d v e) H n) : IS P N m d i e H n K := by
  intro o ht hd hN w0 w a Q K' hm hw hag hK
  obtain ⟨v, hv, hr⟩ := pv_sound hag ht h
  unfold Oper.wp
  rw [hr _ _ _ hw]
  simp only [Oper.upon]
  exact hK _ _ _ _ _ hv (Nat.le_refl _) (by rw [hd]; exact hag.putD hN v) hw

def stV (n : Nat) (v : AV) (k : Blk) (off : Nat) (K : (Nat → SV) → Prop) : Prop :=
  match v with
  | .s x => (n = 1 ∧ off < k.size) ∧ K (put1 k.c off x)
  | .arr m c => (m = n ∧ off + n ≤ k.size) ∧ K (splice k.c off n c)
  | _ => False

/-! ### What an instruction was made of -/
set_option maxHeartbeats 2000000
theorem inv_st {ty : TypeId} {op : Op} {z : Nat} {x y : X} (ht : trI P ty op = some (.st z x y)) : ∃ t x0 y0, op = .store t x0 y0 ∧ sizeT P t = some z ∧ trX x0 = some x ∧ trX y0 = some y := by
  cases op <;> simp only [trI, bind, Option.bind_eq_some_iff, Option.some.injEq, reduceCtorEq] at ht
  case store t x0 y0 =>
    obtain ⟨s, hs, x', hx', y', hy', h⟩ := ht
    cases h
    exact ⟨t, x0, y0, rfl, hs, hx', hy'⟩
  case makeFunc fn p q =>
    cases fn <;> simp only [trI, bind, Option.bind_eq_some_iff, Option.some.injEq, reduceCtorEq] at ht
    obtain ⟨_, _, _, _, h⟩ := ht
    cases h
  all_goals (exfalso; (repeat' (first | (obtain ⟨_, _, ht⟩ := ht) | (split at ht) | cases ht | (simp only [trI, bind, Option.bind_eq_some_iff, Option.some.injEq, reduceCtorEq] at ht) | (rename_i heq; cases heq; done))))

theorem inv_new {ty : TypeId} {op : Op} {t : TypeId} {z : Zs} (ht : trI P ty op = some (.new t z)) : op = .alloc t ∧ zOf P t = some z := by
  cases op <;> simp only [trI, bind, Option.bind_eq_some_iff, Option.some.injEq, reduceCtorEq] at ht
  case alloc t0 =>
    obtain ⟨z', hz, h⟩ := ht
    cases h
    exact ⟨rfl, hz⟩
  case makeFunc fn p q =>
    cases fn <;> simp only [trI, bind, Option.bind_eq_some_iff, Option.some.injEq, reduceCtorEq] at ht
    obtain ⟨_, _, _, _, h⟩ := ht
    cases h
  all_goals (exfalso; (repeat' (first | (obtain ⟨_, _, ht⟩ := ht) | (split at ht) | cases ht | (simp only [trI, bind, Option.bind_eq_some_iff, Option.some.injEq, reduceCtorEq] at ht) | (rename_i heq; cases heq; done))))

theorem inv_box {ty : TypeId} {op : Op} {t : TypeId} {x : X} (ht : trI P ty op = some (.box t x)) : ∃ x0, op = .box t x0 ∧ trX x0 = some x := by
  cases op <;> simp only [trI, bind, Option.bind_eq_some_iff, Option.some.injEq, reduceCtorEq] at ht
  case box t0 x0 =>
    obtain ⟨z', hz, h⟩ := ht
    cases h
    exact ⟨x0, rfl, hz⟩
  case makeFunc fn p q =>
    cases fn <;> simp only [trI, bind, Option.bind_eq_some_iff, Option.some.injEq, reduceCtorEq] at ht
    obtain ⟨_, _, _, _, h⟩ := ht
    cases h
  all_goals (exfalso; (repeat' (first | (obtain ⟨_, _, ht⟩ := ht) | (split at ht) | cases ht | (simp only [trI, bind, Option.bind_eq_some_iff, Option.some.injEq, reduceCtorEq] at ht) | (rename_i heq; cases heq; done))))

theorem inv_bsl {ty : TypeId} {op : Op} {el : TypeId} {len sz : Nat} {z : Zs} {ps : List (Nat × Nat × X)} (ht : trI P ty op = some (.bsl el len sz z ps)) : ∃ t qs, op = .buildSlice t len qs ∧ P.underlying t = some (.slice el) ∧ zOf P el = some z ∧ sizeT P el = some sz ∧ len * sz ≤ 2 ^ 24 ∧ sz ≠ 0 ∧ trParts (fun i => some (i * sz, sz)) (len * sz) qs.toList = some ps := by
  cases op <;> simp only [trI, bind, Option.bind_eq_some_iff, Option.some.injEq, reduceCtorEq] at ht
  case buildSlice t len0 qs =>
    obtain ⟨d, hd, ht⟩ := ht
    split at ht
    · simp only [Option.bind_eq_some_iff] at ht
      obtain ⟨z', hz, s, hs, ht⟩ := ht
      split at ht
      · cases ht
      · rename_i hc
        simp only [Option.bind_eq_some_iff, Option.some.injEq] at ht
        obtain ⟨l, hl, h⟩ := ht
        cases h
        exact ⟨t, qs, rfl, hd, hz, hs, by omega, by omega, hl⟩
    · cases ht
  case makeFunc fn p q =>
    cases fn <;> simp only [trI, bind, Option.bind_eq_some_iff, Option.some.injEq, reduceCtorEq] at ht
    obtain ⟨_, _, _, _, h⟩ := ht
    cases h
  all_goals (exfalso; (repeat' (first | (obtain ⟨_, _, ht⟩ := ht) | (split at ht) | cases ht | (simp only [trI, bind, Option.bind_eq_some_iff, Option.some.injEq, reduceCtorEq] at ht) | (rename_i heq; cases heq; done))))

theorem inv_mks {ty : TypeId} {op : Op} {el : TypeId} {sz bytes : Nat} {z : Zs} {l c : X} (ht : trI P ty op = some (.mks el sz bytes z l c)) : ∃ t l0 c0 i, op = .makeSlice t l0 c0 ∧ P.underlying t = some (.slice el) ∧ P.info? el = some i ∧ i.size = sz ∧ sz ≠ 0 ∧ i.bytes = bytes ∧ zOf P el = some z ∧ trX l0 = some l ∧ trX c0 = some c := by
  cases op <;> simp only [trI, bind, Option.bind_eq_some_iff, Option.some.injEq, reduceCtorEq] at ht
  case makeSlice t l0 c0 =>
    obtain ⟨d, hd, ht⟩ := ht
    split at ht
    · simp only [Option.bind_eq_some_iff] at ht
      obtain ⟨i, hi, ht⟩ := ht
      split at ht
      · cases ht
      · rename_i hc
        simp only [Option.bind_eq_some_iff, Option.some.injEq] at ht
        obtain ⟨z', hz, l', hl, c', hc', h⟩ := ht
        cases h
        exact ⟨t, l0, c0, i, rfl, hd, hi, rfl, hc, rfl, hz, hl, hc'⟩
    · cases ht
  case makeFunc fn p q =>
    cases fn <;> simp only [trI, bind, Option.bind_eq_some_iff, Option.some.injEq, reduceCtorEq] at ht
    obtain ⟨_, _, _, _, h⟩ := ht
    cases h
  all_goals (exfalso; (repeat' (first | (obtain ⟨_, _, ht⟩ := ht) | (split at ht) | cases ht | (simp only [trI, bind, Option.bind_eq_some_iff, Option.some.injEq, reduceCtorEq] at ht) | (rename_i heq; cases heq; done))))

theorem inv_call {ty : TypeId} {op : Op} {f : FuncId} {args : List X} (ht : trI P ty op = some (.call f args)) : ∃ c, op = .call c ∧ c.callee = .value (.func f) ∧ c.args.toList.mapM trX = some args := by
  cases op <;> simp only [trI, bind, Option.bind_eq_some_iff, Option.some.injEq, reduceCtorEq] at ht
  case call c =>
    obtain ⟨args', hargs, ht⟩ := ht
    split at ht
    · rename_i f0 hc0
      cases ht
      exact ⟨c, rfl, hc0, hargs⟩
    · rename_i x0 _ hc0
      simp only [Option.bind_eq_some_iff, Option.some.injEq] at ht
      obtain ⟨x', hx', h⟩ := ht
      cases h
    · rename_i hc0
      simp only [Option.bind_eq_some_iff] at ht
      obtain ⟨t0, ht0, d, hd, ht⟩ := ht
      split at ht <;> cases ht
    · rename_i hc0
      simp only [Option.bind_eq_some_iff] at ht
      obtain ⟨t0, ht0, t1, ht1, d0, hd0, d1, hd1, ht⟩ := ht
      split at ht
      · rename_i el _ x0 y0
        simp only [Option.bind_eq_some_iff] at ht
        obtain ⟨i, hi, ht⟩ := ht
        split at ht
        · cases ht
        · rename_i hnz
          simp only [Option.bind_eq_some_iff, Option.some.injEq] at ht
          obtain ⟨z', hz, h⟩ := ht
          cases h
      · cases ht
    · rename_i hc0
      simp only [Option.bind_eq_some_iff] at ht
      obtain ⟨t0, ht0, d0, hd0, ht⟩ := ht
      split at ht
      · simp only [Option.bind_eq_some_iff, Option.some.injEq] at ht
        obtain ⟨s, hs, h⟩ := ht
        cases h
      · cases ht
    · cases ht
  case makeFunc fn p q =>
    cases fn <;> simp only [trI, bind, Option.bind_eq_some_iff, Option.some.injEq, reduceCtorEq] at ht
    obtain ⟨_, _, _, _, h⟩ := ht
    cases h
  all_goals (exfalso; (repeat' (first | (obtain ⟨_, _, ht⟩ := ht) | (split at ht) | cases ht | (simp only [trI, bind, Option.bind_eq_some_iff, Option.some.injEq, reduceCtorEq] at ht) | (rename_i heq; cases heq; done))))

theorem inv_callv {ty : TypeId} {op : Op} {x : X} {args : List X} (ht : trI P ty op = some (.callv x args)) : ∃ c x0, op = .call c ∧ c.callee = .value x0 ∧ trX x0 = some x ∧ c.args.toList.mapM trX = some args := by
  cases op <;> simp only [trI, bind, Option.bind_eq_some_iff, Option.some.injEq, reduceCtorEq] at ht
  case call c =>
    obtain ⟨args', hargs, ht⟩ := ht
    split at ht
    · rename_i f0 hc0
      cases ht
    · rename_i x0 _ hc0
      simp only [Option.bind_eq_some_iff, Option.some.injEq] at ht
      obtain ⟨x', hx', h⟩ := ht
      cases h
      exact ⟨c, x0, rfl, hc0, hx', hargs⟩
    · rename_i hc0
      simp only [Option.bind_eq_some_iff] at ht
      obtain ⟨t0, ht0, d, hd, ht⟩ := ht
      split at ht <;> cases ht
    · rename_i hc0
      simp only [Option.bind_eq_some_iff] at ht
      obtain ⟨t0, ht0, t1, ht1, d0, hd0, d1, hd1, ht⟩ := ht
      split at ht
      · rename_i el _ x0 y0
        simp only [Option.bind_eq_some_iff] at ht
        obtain ⟨i, hi, ht⟩ := ht
        split at ht
        · cases ht
        · rename_i hnz
          simp only [Option.bind_eq_some_iff, Option.some.injEq] at ht
          obtain ⟨z', hz, h⟩ := ht
          cases h
      · cases ht
    · rename_i hc0
      simp only [Option.bind_eq_some_iff] at ht
      obtain ⟨t0, ht0, d0, hd0, ht⟩ := ht
      split at ht
      · simp only [Option.bind_eq_some_iff, Option.some.injEq] at ht
        obtain ⟨s, hs, h⟩ := ht
        cases h
      · cases ht
    · cases ht
  case makeFunc fn p q =>
    cases fn <;> simp only [trI, bind, Option.bind_eq_some_iff, Option.some.injEq, reduceCtorEq] at ht
    obtain ⟨_, _, _, _, h⟩ := ht
    cases h
  all_goals (exfalso; (repeat' (first | (obtain ⟨_, _, ht⟩ := ht) | (split at ht) | cases ht | (simp only [trI, bind, Option.bind_eq_some_iff, Option.some.injEq, reduceCtorEq] at ht) | (rename_i heq; cases heq; done))))

theorem inv_app {ty : TypeId} {op : Op} {el : TypeId} {sz bytes : Nat} {z : Zs} {x y : X} (ht : trI P ty op = some (.app el sz bytes z x y)) : ∃ c t0 t1 el1 i, op = .call c ∧ c.callee = .builtin .append ∧ c.args.toList.mapM trX = some [x, y] ∧ c.argTypes[0]? = some t0 ∧ c.argTypes[1]? = some t1 ∧ P.underlying t0 = some (.slice el) ∧ P.underlying t1 = some (.slice el1) ∧ P.info? el = some i ∧ i.size = sz ∧ i.bytes = bytes ∧ sz ≠ 0 ∧ bytes ≠ 0 ∧ zOf P el = some z := by
  cases op <;> simp only [trI, bind, Option.bind_eq_some_iff, Option.some.injEq, reduceCtorEq] at ht
  case call c =>
    obtain ⟨args', hargs, ht⟩ := ht
    split at ht
    · rename_i f0 hc0
      cases ht
    · rename_i x0 _ hc0
      simp only [Option.bind_eq_some_iff, Option.some.injEq] at ht
      obtain ⟨x', hx', h⟩ := ht
      cases h
    · rename_i hc0
      simp only [Option.bind_eq_some_iff] at ht
      obtain ⟨t0, ht0, d, hd, ht⟩ := ht
      split at ht <;> cases ht
    · rename_i hc0
      simp only [Option.bind_eq_some_iff] at ht
      obtain ⟨t0, ht0, t1, ht1, d0, hd0, d1, hd1, ht⟩ := ht
      split at ht
      · rename_i el _ x0 y0
        simp only [Option.bind_eq_some_iff] at ht
        obtain ⟨i, hi, ht⟩ := ht
        split at ht
        · cases ht
        · rename_i hnz
          simp only [Option.bind_eq_some_iff, Option.some.injEq] at ht
          obtain ⟨z', hz, h⟩ := ht
          cases h
          exact ⟨c, t0, t1, _, i, rfl, hc0, hargs, ht0, ht1, hd0, hd1, hi, rfl, rfl, by omega, by omega, hz⟩
      · cases ht
    · rename_i hc0
      simp only [Option.bind_eq_some_iff] at ht
      obtain ⟨t0, ht0, d0, hd0, ht⟩ := ht
      split at ht
      · simp only [Option.bind_eq_some_iff, Option.some.injEq] at ht
        obtain ⟨s, hs, h⟩ := ht
        cases h
      · cases ht
    · cases ht
  case makeFunc fn p q =>
    cases fn <;> simp only [trI, bind, Option.bind_eq_some_iff, Option.some.injEq, reduceCtorEq] at ht
    obtain ⟨_, _, _, _, h⟩ := ht
    cases h
  all_goals (exfalso; (repeat' (first | (obtain ⟨_, _, ht⟩ := ht) | (split at ht) | cases ht | (simp only [trI, bind, Option.bind_eq_some_iff, Option.some.injEq, reduceCtorEq] at ht) | (rename_i heq; cases heq; done))))

theorem inv_cpy {ty : TypeId} {op : Op} {sz : Nat} {x y : X} (ht : trI P ty op = some (.cpy sz x y)) : ∃ c t0 el, op = .call c ∧ c.callee = .builtin .copy ∧ c.args.toList.mapM trX = some [x, y] ∧ c.argTypes[0]? = some t0 ∧ P.underlying t0 = some (.slice el) ∧ sizeT P el = some sz := by
  cases op <;> simp only [trI, bind, Option.bind_eq_some_iff, Option.some.injEq, reduceCtorEq] at ht
  case call c =>
    obtain ⟨args', hargs, ht⟩ := ht
    split at ht
    · rename_i f0 hc0
      cases ht
    · rename_i x0 _ hc0
      simp only [Option.bind_eq_some_iff, Option.some.injEq] at ht
      obtain ⟨x', hx', h⟩ := ht
      cases h
    · rename_i hc0
      simp only [Option.bind_eq_some_iff] at ht
      obtain ⟨t0, ht0, d, hd, ht⟩ := ht
      split at ht <;> cases ht
    · rename_i hc0
      simp only [Option.bind_eq_some_iff] at ht
      obtain ⟨t0, ht0, t1, ht1, d0, hd0, d1, hd1, ht⟩ := ht
      split at ht
      · rename_i el _ x0 y0
        simp only [Option.bind_eq_some_iff] at ht
        obtain ⟨i, hi, ht⟩ := ht
        split at ht
        · cases ht
        · rename_i hnz
          simp only [Option.bind_eq_some_iff, Option.some.injEq] at ht
          obtain ⟨z', hz, h⟩ := ht
          cases h
      · cases ht
    · rename_i hc0
      simp only [Option.bind_eq_some_iff] at ht
      obtain ⟨t0, ht0, d0, hd0, ht⟩ := ht
      split at ht
      · simp only [Option.bind_eq_some_iff, Option.some.injEq] at ht
        obtain ⟨s, hs, h⟩ := ht
        cases h
        exact ⟨c, t0, _, rfl, hc0, hargs, ht0, hd0, hs⟩
      · cases ht
    · cases ht
  case makeFunc fn p q =>
    cases fn <;> simp only [trI, bind, Option.bind_eq_some_iff, Option.some.injEq, reduceCtorEq] at ht
    obtain ⟨_, _, _, _, h⟩ := ht
    cases h
  all_goals (exfalso; (repeat' (first | (obtain ⟨_, _, ht⟩ := ht) | (split at ht) | cases ht | (simp only [trI, bind, Option.bind_eq_some_iff, Option.some.injEq, reduceCtorEq] at ht) | (rename_i heq; cases heq; done))))

theorem IS.st {N m : Nat} {z : Nat} {x y : X} {e : Env} {H : Hp} {n : Nat} {K : Env → Hp → Nat → Prop} {b off : Nat} {k : Blk} {v : AV}
    (hx : x.ev e = some (.s (.ptr b off))) (hy : y.ev e = some v) (hb : H.get b = some k) (h : stV z v k off fun c => K e (H.set b c) n) : IS P N m none (.st z x y) e H n K := by
  intro o ht hd hN w0 w a Q K' hm hw hag hK
  obtain ⟨dst, op, ty, pos, after, guard⟩ := o
  dsimp only at ht hd
  subst hd
  obtain ⟨t, x0, y0, rfl, hs, hx0, hy0⟩ := inv_st ht
  have e1 := trX_eval hag hx0 hx
  have e2 := trX_eval hag hy0 hy
  simp only [sizeT, Option.map_eq_some_iff] at hs
  obtain ⟨ti, hti, rfl⟩ := hs
  have hz : (sizeOf t).run P w = .ok ti.size w := by simp [sizeOf, typeInfo, hti]
  have fin : ∀ w' c, (storeCells ⟨b, off, none⟩ (a.eval y0).cells.toList).run P w = .ok () w' → (a.eval y0).cells.size = ti.size → Mem w0 (H.set b c) n w' → K e (H.set b c) n →
      (Oper.mk none (.store t x0 y0) ty pos after guard).wp P a w K' Q := by
    intro w' c hr hsz hm' hk
    have : (execOp a.eval (Oper.mk none (.store t x0 y0) ty pos after guard)).run P w = .ok .skip w' := by
      simp [execOp, Instr.storeAt, e1, AV.conc, SV.conc, Instr.sureAddr, storeVar, hz, hsz, hr]
    unfold Oper.wp
    rw [this]
    simp only [Oper.upon]
    exact hK _ _ _ _ _ hk (Nat.le_refl _) hag hm'
  cases v with
  | s x1 =>
    obtain ⟨⟨hz1, ho⟩, hk⟩ := h
    refine fin _ _ ?_ ?_ (hw.setCell (x := x1) hb ho) hk
    · rw [e2]
      simp only [AV.conc, SV.cells]
      unfold storeCells
      rw [addr_add, Sem.run_bind, Nat.add_zero, run_store hw hb ho]
      simp [storeCells]
    · rw [e2]; simp [AV.conc, SV.cells, hz1]
  | arr m1 c1 =>
    obtain ⟨⟨hz1, ho⟩, hk⟩ := h
    subst hz1
    obtain ⟨w', hr, hm'⟩ := run_storeArr (P := P) (d := c1) hw hb ho
    exact fin _ _ (by rw [e2]; exact hr) (by rw [e2]; simp [AV.conc, Value.cells]) hm' hk
  | tup l => exact h.elim

end
end Go.V
