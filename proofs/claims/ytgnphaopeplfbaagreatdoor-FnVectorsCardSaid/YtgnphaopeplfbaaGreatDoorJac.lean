/- Calls by what they do to memory, single operations, lists of operations. -/
import Derived.Test.YtgnphaopeplfbaaGreatDoorJab
set_option linter.unusedSectionVars false
set_option linter.unusedVariables false
set_option linter.unusedSimpArgs false
namespace Go.V
variable [BW]
set_option linter.unusedSimpArgs false
set_option linter.unusedVariables false

section
variable {P : Program}

/-- A Go function with a body. -/
def Callable (P : Program) (f : FuncId) : Prop := ∃ fn, P.funcs[f]? = some fn ∧ fn.body.isSome = true ∧ (fn.name == "runtime.NumGoroutine") = false

/-- The function, called in a memory H of n blocks, returns v and leaves H', with R. -/
def FnS (P : Program) (f : FuncId) (args : List AV) (H : Hp) (n : Nat) (R : AV → Hp → Nat → Prop) : Prop :=
  Callable P f ∧ ∀ w0 w, Mem w0 H n w → Calls P f (AV.concs args).toArray w fun e w' => ∃ v H' n', e = .returned v.conc ∧ n ≤ n' ∧ Mem w0 H' n' w' ∧ R v H' n'

theorem FnS.mono {f : FuncId} {args : List AV} {H : Hp} {n : Nat} {R R' : AV → Hp → Nat → Prop} (h : FnS P f args H n R) (hr : ∀ v H' n', n ≤ n' → R v H' n' → R' v H' n') : FnS P f args H n R' :=
  ⟨h.1, fun w0 w hw => (h.2 w0 w hw).mono fun e w' ⟨v, H', n', he, hn, hm, hR⟩ => ⟨v, H', n', he, hn, hm, hr _ _ _ hn hR⟩⟩

def putD (d : Option Nat) (v : AV) (e : Env) : Env :=
  match d with
  | none => e
  | some t => e.put t v

theorem Ag.putD {N : Nat} {e : Env} {a : Act} (h : Ag N e a) {d : Option Nat} (hd : ∀ t, d = some t → t < N) (v : AV) : Ag N (putD d v e) (a.put d v.conc) := by
  cases d with
  | none => exact h
  | some t => exact h.put (hd t rfl) v

/-- One operation. -/
def IS (P : Program) (N m : Nat) (d : Option Nat) (i : I) (e : Env) (H : Hp) (n : Nat) (K : Env → Hp → Nat → Prop) : Prop :=
  ∀ (o : Oper), trI P o.type o.op = some i → o.dst = d → (∀ t, d = some t → t < N) → ∀ (w0 w : World) (a : Act) (Q : Exit → Act → World → Prop) (K' : Act → World → Prop),
    w0.heap.size ≤ m → Mem w0 H n w → Ag N e a → (∀ e' H' n' a' w', K e' H' n' → n ≤ n' → Ag N e' a' → Mem w0 H' n' w' → K' a' w') → o.wp P a w K' Q

theorem IS.pure {N m : Nat} {d : Option Nat} {i : I} {e : Env} {H : Hp} {n : Nat} {K : Env → Hp → Nat → Prop} (h : PV i e H fun v => K (putD d v e) H n) : IS P N m d i e H n K := by
  intro o ht hd hN w0 w a Q K' hm hw hag hK
  obtain ⟨v, hv, hr⟩ := pv_sound hag ht h
  unfold Oper.wp
  rw [hr _ _ _ hw]
  simp only [Oper.upon]
  exact hK _ _ _ _ _ hv (Nat.le_refl _) (by rw [hd]; exact hag.putD hN v) hw

def stV (n : Nat) (v : AV) (k : Blk) (off : Nat) (K : (Nat → SV) → Prop) : Prop :=
  match v with
  | .s x => (n = 1 ∧ off < k.size) ∧ K (put1 k.c off x)
  | .arr m c => (m = n ∧ off + n ≤ k.size) ∧ K (splice k.c off n c)
  | _ => False

/-! ### What an instruction was made of -/
set_option maxHeartbeats 2000000
theorem inv_st {ty : TypeId} {op : Op} {z : Nat} {x y : X} (ht : trI P ty op = some (.st z x y)) : ∃ t x0 y0, op = .store t x0 y0 ∧ sizeT P t = some z ∧ trX x0 = some x ∧ trX y0 = some y := by
  cases op <;> simp only [trI, bind, Option.bind_eq_some_iff, Option.some.injEq, reduceCtorEq] at ht
  case store t x0 y0 =>
    obtain ⟨s, hs, x', hx', y', hy', h⟩ := ht
    cases h
    exact ⟨t, x0, y0, rfl, hs, hx', hy'⟩
  case makeFunc fn p q =>
    cases fn <;> simp only [trI, bind, Option.bind_eq_some_iff, Option.some.injEq, reduceCtorEq] at ht
    obtain ⟨_, _, _, _, h⟩ := ht
    cases h
  all_goals (exfalso; (repeat' (first | (obtain ⟨_, _, ht⟩ := ht) | (split at ht) | cases ht | (simp only [trI, bind, Option.bind_eq_some_iff, Option.some.injEq, reduceCtorEq] at ht) | (rename_i heq; cases heq; done))))

theorem inv_new {ty : TypeId} {op : Op} {t : TypeId} {z : Zs} (ht : trI P ty op = some (.new t z)) : op = .alloc t ∧ zOf P t = some z := by
  cases op <;> simp only [trI, bind, Option.bind_eq_some_iff, Option.some.injEq, reduceCtorEq] at ht
  case alloc t0 =>
    obtain ⟨z', hz, h⟩ := ht
    cases h
    exact ⟨rfl, hz⟩
  case makeFunc fn p q =>
    cases fn <;> simp only [trI, bind, Option.bind_eq_some_iff, Option.some.injEq, reduceCtorEq] at ht
    obtain ⟨_, _, _, _, h⟩ := ht
    cases h
  all_goals (exfalso; (repeat' (first | (obtain ⟨_, _, ht⟩ := ht) | (split at ht) | cases ht | (simp only [trI, bind, Option.bind_eq_some_iff, Option.some.injEq, reduceCtorEq] at ht) | (rename_i heq; cases heq; done))))

theorem inv_box {ty : TypeId} {op : Op} {t : TypeId} {x : X} (ht : trI P ty op = some (.box t x)) : ∃ x0, op = .box t x0 ∧ trX x0 = some x := by
  cases op <;> simp only [trI, bind, Option.bind_eq_some_iff, Option.some.injEq, reduceCtorEq] at ht
  case box t0 x0 =>
    obtain ⟨z', hz, h⟩ := ht
    cases h
    exact ⟨x0, rfl, hz⟩
  case makeFunc fn p q =>
    cases fn <;> simp only [trI, bind, Option.bind_eq_some_iff, Option.some.injEq, reduceCtorEq] at ht
    obtain ⟨_, _, _, _, h⟩ := ht
    cases h
  all_goals (exfalso; (repeat' (first | (obtain ⟨_, _, ht⟩ := ht) | (split at ht) | cases ht | (simp only [trI, bind, Option.bind_eq_some_iff, Option.some.injEq, reduceCtorEq] at ht) | (rename_i heq; cases heq; done))))

theorem inv_bsl {ty : TypeId} {op : Op} {el : TypeId} {len sz : Nat} {z : Zs} {ps : List (Nat × Nat × X)} (ht : trI P ty op = some (.bsl el len sz z ps)) : ∃ t qs, op = .buildSlice t len qs ∧ P.underlying t = some (.slice el) ∧ zOf P el = some z ∧ sizeT P el = some sz ∧ len * sz ≤ 2 ^ 24 ∧ sz ≠ 0 ∧ trParts (fun i => some (i * sz, sz)) (len * sz) qs.toList = some ps := by
  cases op <;> simp only [trI, bind, Option.bind_eq_some_iff, Option.some.injEq, reduceCtorEq] at ht
  case buildSlice t len0 qs =>
    obtain ⟨d, hd, ht⟩ := ht
    split at ht
    · simp only [Option.bind_eq_some_iff] at ht
      obtain ⟨z', hz, s, hs, ht⟩ := ht
      split at ht
      · cases ht
      · rename_i hc
        simp only [Option.bind_eq_some_iff, Option.some.injEq] at ht
        obtain ⟨l, hl, h⟩ := ht
        cases h
        exact ⟨t, qs, rfl, hd, hz, hs, by omega, by omega, hl⟩
    · cases ht
  case makeFunc fn p q =>
    cases fn <;> simp only [trI, bind, Option.bind_eq_some_iff, Option.some.injEq, reduceCtorEq] at ht
    obtain ⟨_, _, _, _, h⟩ := ht
    cases h
  all_goals (exfalso; (repeat' (first | (obtain ⟨_, _, ht⟩ := ht) | (split at ht) | cases ht | (simp only [trI, bind, Option.bind_eq_some_iff, Option.some.injEq, reduceCtorEq] at ht) | (rename_i heq; cases heq; done))))

theorem inv_mks {ty : TypeId} {op : Op} {el : TypeId} {sz bytes : Nat} {z : Zs} {l c : X} (ht : trI P ty op = some (.mks el sz bytes z l c)) : ∃ t l0 c0 i, op = .makeSlice t l0 c0 ∧ P.underlying t = some (.slice el) ∧ P.info? el = some i ∧ i.size = sz ∧ sz ≠ 0 ∧ i.bytes = bytes ∧ zOf P el = some z ∧ trX l0 = some l ∧ trX c0 = some c := by
  cases op <;> simp only [trI, bind, Option.bind_eq_some_iff, Option.some.injEq, reduceCtorEq] at ht
  case makeSlice t l0 c0 =>
    obtain ⟨d, hd, ht⟩ := ht
    split at ht
    · simp only [Option.bind_eq_some_iff] at ht
      obtain ⟨i, hi, ht⟩ := ht
      split at ht
      · cases ht
      · rename_i hc
        simp only [Option.bind_eq_some_iff, Option.some.injEq] at ht
        obtain ⟨z', hz, l', hl, c', hc', h⟩ := ht
        cases h
        exact ⟨t, l0, c0, i, rfl, hd, hi, rfl, hc, rfl, hz, hl, hc'⟩
    · cases ht
  case makeFunc fn p q =>
    cases fn <;> simp only [trI, bind, Option.bind_eq_some_iff, Option.some.injEq, reduceCtorEq] at ht
    obtain ⟨_, _, _, _, h⟩ := ht
    cases h
  all_goals (exfalso; (repeat' (first | (obtain ⟨_, _, ht⟩ := ht) | (split at ht) | cases ht | (simp only [trI, bind, Option.bind_eq_some_iff, Option.some.injEq, reduceCtorEq] at ht) | (rename_i heq; cases heq; done))))

theorem inv_call {ty : TypeId} {op : Op} {f : FuncId} {args : List X} (ht : trI P ty op = some (.call f args)) : ∃ c, op = .call c ∧ c.callee = .value (.func f) ∧ c.args.toList.mapM trX = some args := by
  cases op <;> simp only [trI, bind, Option.bind_eq_some_iff, Option.some.injEq, reduceCtorEq] at ht
  case call c =>
    obtain ⟨args', hargs, ht⟩ := ht
    split at ht
    · rename_i f0 hc0
      cases ht
      exact ⟨c, rfl, hc0, hargs⟩
    · rename_i x0 _ hc0
      simp only [Option.bind_eq_some_iff, Option.some.injEq] at ht
      obtain ⟨x', hx', h⟩ := ht
      cases h
    · rename_i hc0
      simp only [Option.bind_eq_some_iff] at ht
      obtain ⟨t0, ht0, d, hd, ht⟩ := ht
      split at ht <;> cases ht
    · rename_i hc0
      simp only [Option.bind_eq_some_iff] at ht
      obtain ⟨t0, ht0, t1, ht1, d0, hd0, d1, hd1, ht⟩ := ht
      split at ht
      · rename_i el _ x0 y0
        simp only [Option.bind_eq_some_iff] at ht
        obtain ⟨i, hi, ht⟩ := ht
        split at ht
        · cases ht
        · rename_i hnz
          simp only [Option.bind_eq_some_iff, Option.some.injEq] at ht
          obtain ⟨z', hz, h⟩ := ht
          cases h
      · cases ht
    · rename_i hc0
      simp only [Option.bind_eq_some_iff] at ht
      obtain ⟨t0, ht0, d0, hd0, ht⟩ := ht
      split at ht
      · simp only [Option.bind_eq_some_iff, Option.some.injEq] at ht
        obtain ⟨s, hs, h⟩ := ht
        cases h
      · cases ht
    · split at ht <;> cases ht
    · split at ht <;> cases ht
    · cases ht
  case makeFunc fn p q =>
    cases fn <;> simp only [trI, bind, Option.bind_eq_some_iff, Option.some.injEq, reduceCtorEq] at ht
    obtain ⟨_, _, _, _, h⟩ := ht
    cases h
  all_goals (exfalso; (repeat' (first | (obtain ⟨_, _, ht⟩ := ht) | (split at ht) | cases ht | (simp only [trI, bind, Option.bind_eq_some_iff, Option.some.injEq, reduceCtorEq] at ht) | (rename_i heq; cases heq; done))))

theorem inv_callv {ty : TypeId} {op : Op} {x : X} {args : List X} (ht : trI P ty op = some (.callv x args)) : ∃ c x0, op = .call c ∧ c.callee = .value x0 ∧ trX x0 = some x ∧ c.args.toList.mapM trX = some args := by
  cases op <;> simp only [trI, bind, Option.bind_eq_some_iff, Option.some.injEq, reduceCtorEq] at ht
  case call c =>
    obtain ⟨args', hargs, ht⟩ := ht
    split at ht
    · rename_i f0 hc0
      cases ht
    · rename_i x0 _ hc0
      simp only [Option.bind_eq_some_iff, Option.some.injEq] at ht
      obtain ⟨x', hx', h⟩ := ht
      cases h
      exact ⟨c, x0, rfl, hc0, hx', hargs⟩
    · rename_i hc0
      simp only [Option.bind_eq_some_iff] at ht
      obtain ⟨t0, ht0, d, hd, ht⟩ := ht
      split at ht <;> cases ht
    · rename_i hc0
      simp only [Option.bind_eq_some_iff] at ht
      obtain ⟨t0, ht0, t1, ht1, d0, hd0, d1, hd1, ht⟩ := ht
      split at ht
      · rename_i el _ x0 y0
        simp only [Option.bind_eq_some_iff] at ht
        obtain ⟨i, hi, ht⟩ := ht
        split at ht
        · cases ht
        · rename_i hnz
          simp only [Option.bind_eq_some_iff, Option.some.injEq] at ht
          obtain ⟨z', hz, h⟩ := ht
          cases h
      · cases ht
    · rename_i hc0
      simp only [Option.bind_eq_some_iff] at ht
      obtain ⟨t0, ht0, d0, hd0, ht⟩ := ht
      split at ht
      · simp only [Option.bind_eq_some_iff, Option.some.injEq] at ht
        obtain ⟨s, hs, h⟩ := ht
        cases h
      · cases ht
    · split at ht <;> cases ht
    · split at ht <;> cases ht
    · cases ht
  case makeFunc fn p q =>
    cases fn <;> simp only [trI, bind, Option.bind_eq_some_iff, Option.some.injEq, reduceCtorEq] at ht
    obtain ⟨_, _, _, _, h⟩ := ht
    cases h
  all_goals (exfalso; (repeat' (first | (obtain ⟨_, _, ht⟩ := ht) | (split at ht) | cases ht | (simp only [trI, bind, Option.bind_eq_some_iff, Option.some.injEq, reduceCtorEq] at ht) | (rename_i heq; cases heq; done))))

theorem inv_app {ty : TypeId} {op : Op} {el : TypeId} {sz bytes : Nat} {z : Zs} {x y : X} (ht : trI P ty op = some (.app el sz bytes z x y)) : ∃ c t0 t1 el1 i, op = .call c ∧ c.callee = .builtin .append ∧ c.args.toList.mapM trX = some [x, y] ∧ c.argTypes[0]? = some t0 ∧ c.argTypes[1]? = some t1 ∧ P.underlying t0 = some (.slice el) ∧ P.underlying t1 = some (.slice el1) ∧ P.info? el = some i ∧ i.size = sz ∧ i.bytes = bytes ∧ sz ≠ 0 ∧ bytes ≠ 0 ∧ zOf P el = some z := by
  cases op <;> simp only [trI, bind, Option.bind_eq_some_iff, Option.some.injEq, reduceCtorEq] at ht
  case call c =>
    obtain ⟨args', hargs, ht⟩ := ht
    split at ht
    · rename_i f0 hc0
      cases ht
    · rename_i x0 _ hc0
      simp only [Option.bind_eq_some_iff, Option.some.injEq] at ht
      obtain ⟨x', hx', h⟩ := ht
      cases h
    · rename_i hc0
      simp only [Option.bind_eq_some_iff] at ht
      obtain ⟨t0, ht0, d, hd, ht⟩ := ht
      split at ht <;> cases ht
    · rename_i hc0
      simp only [Option.bind_eq_some_iff] at ht
      obtain ⟨t0, ht0, t1, ht1, d0, hd0, d1, hd1, ht⟩ := ht
      split at ht
      · rename_i el _ x0 y0
        simp only [Option.bind_eq_some_iff] at ht
        obtain ⟨i, hi, ht⟩ := ht
        split at ht
        · cases ht
        · rename_i hnz
          simp only [Option.bind_eq_some_iff, Option.some.injEq] at ht
          obtain ⟨z', hz, h⟩ := ht
          cases h
          exact ⟨c, t0, t1, _, i, rfl, hc0, hargs, ht0, ht1, hd0, hd1, hi, rfl, rfl, by omega, by omega, hz⟩
      · cases ht
    · rename_i hc0
      simp only [Option.bind_eq_some_iff] at ht
      obtain ⟨t0, ht0, d0, hd0, ht⟩ := ht
      split at ht
      · simp only [Option.bind_eq_some_iff, Option.some.injEq] at ht
        obtain ⟨s, hs, h⟩ := ht
        cases h
      · cases ht
    · split at ht <;> cases ht
    · split at ht <;> cases ht
    · cases ht
  case makeFunc fn p q =>
    cases fn <;> simp only [trI, bind, Option.bind_eq_some_iff, Option.some.injEq, reduceCtorEq] at ht
    obtain ⟨_, _, _, _, h⟩ := ht
    cases h
  all_goals (exfalso; (repeat' (first | (obtain ⟨_, _, ht⟩ := ht) | (split at ht) | cases ht | (simp only [trI, bind, Option.bind_eq_some_iff, Option.some.injEq, reduceCtorEq] at ht) | (rename_i heq; cases heq; done))))

theorem inv_cpy {ty : TypeId} {op : Op} {sz : Nat} {x y : X} (ht : trI P ty op = some (.cpy sz x y)) : ∃ c t0 el, op = .call c ∧ c.callee = .builtin .copy ∧ c.args.toList.mapM trX = some [x, y] ∧ c.argTypes[0]? = some t0 ∧ P.underlying t0 = some (.slice el) ∧ sizeT P el = some sz := by
  cases op <;> simp only [trI, bind, Option.bind_eq_some_iff, Option.some.injEq, reduceCtorEq] at ht
  case call c =>
    obtain ⟨args', hargs, ht⟩ := ht
    split at ht
    · rename_i f0 hc0
      cases ht
    · rename_i x0 _ hc0
      simp only [Option.bind_eq_some_iff, Option.some.injEq] at ht
      obtain ⟨x', hx', h⟩ := ht
      cases h
    · rename_i hc0
      simp only [Option.bind_eq_some_iff] at ht
      obtain ⟨t0, ht0, d, hd, ht⟩ := ht
      split at ht <;> cases ht
    · rename_i hc0
      simp only [Option.bind_eq_some_iff] at ht
      obtain ⟨t0, ht0, t1, ht1, d0, hd0, d1, hd1, ht⟩ := ht
      split at ht
      · rename_i el _ x0 y0
        simp only [Option.bind_eq_some_iff] at ht
        obtain ⟨i, hi, ht⟩ := ht
        split at ht
        · cases ht
        · rename_i hnz
          simp only [Option.bind_eq_some_iff, Option.some.injEq] at ht
          obtain ⟨z', hz, h⟩ := ht
          cases h
      · cases ht
    · rename_i hc0
      simp only [Option.bind_eq_some_iff] at ht
      obtain ⟨t0, ht0, d0, hd0, ht⟩ := ht
      split at ht
      · simp only [Option.bind_eq_some_iff, Option.some.injEq] at ht
        obtain ⟨s, hs, h⟩ := ht
        cases h
        exact ⟨c, t0, _, rfl, hc0, hargs, ht0, hd0, hs⟩
      · cases ht
    · split at ht <;> cases ht
    · split at ht <;> cases ht
    · cases ht
  case makeFunc fn p q =>
    cases fn <;> simp only [trI, bind, Option.bind_eq_some_iff, Option.some.injEq, reduceCtorEq] at ht
    obtain ⟨_, _, _, _, h⟩ := ht
    cases h
  all_goals (exfalso; (repeat' (first | (obtain ⟨_, _, ht⟩ := ht) | (split at ht) | cases ht | (simp only [trI, bind, Option.bind_eq_some_iff, Option.some.injEq, reduceCtorEq] at ht) | (rename_i heq; cases heq; done))))

theorem IS.st {N m : Nat} {z : Nat} {x y : X} {e : Env} {H : Hp} {n : Nat} {K : Env → Hp → Nat → Prop} {b off : Nat} {k : Blk} {v : AV}
    (hx : x.ev e = some (.s (.ptr b off))) (hy : y.ev e = some v) (hb : H.get b = some k) (h : stV z v k off fun c => K e (H.set b c) n) : IS P N m none (.st z x y) e H n K := by
  intro o ht hd hN w0 w a Q K' hm hw hag hK
  obtain ⟨dst, op, ty, pos, after, guard⟩ := o
  dsimp only at ht hd
  subst hd
  obtain ⟨t, x0, y0, rfl, hs, hx0, hy0⟩ := inv_st ht
  have e1 := trX_eval hag hx0 hx
  have e2 := trX_eval hag hy0 hy
  simp only [sizeT, Option.map_eq_some_iff] at hs
  obtain ⟨ti, hti, rfl⟩ := hs
  have hz : (sizeOf t).run P w = .ok ti.size w := by simp [sizeOf, typeInfo, hti]
  have fin : ∀ w' c, (storeCells ⟨b, off, none⟩ (a.eval y0).cells.toList).run P w = .ok () w' → (a.eval y0).cells.size = ti.size → Mem w0 (H.set b c) n w' → K e (H.set b c) n →
      (Oper.mk none (.store t x0 y0) ty pos after guard).wp P a w K' Q := by
    intro w' c hr hsz hm' hk
    have : (execOp a.eval (Oper.mk none (.store t x0 y0) ty pos after guard)).run P w = .ok .skip w' := by
      simp [execOp, Instr.storeAt, e1, AV.conc, SV.conc, Instr.sureAddr, storeVar, hz, hsz, hr]
    unfold Oper.wp
    rw [this]
    simp only [Oper.upon]
    exact hK _ _ _ _ _ hk (Nat.le_refl _) hag hm'
  cases v with
  | s x1 =>
    obtain ⟨⟨hz1, ho⟩, hk⟩ := h
    refine fin _ _ ?_ ?_ (hw.setCell (x := x1) hb ho) hk
    · rw [e2]
      simp only [AV.conc, SV.cells]
      unfold storeCells
      rw [addr_add, Sem.run_bind, Nat.add_zero, run_store hw hb ho]
      simp [storeCells]
    · rw [e2]; simp [AV.conc, SV.cells, hz1]
  | arr m1 c1 =>
    obtain ⟨⟨hz1, ho⟩, hk⟩ := h
    subst hz1
    obtain ⟨w', hr, hm'⟩ := run_storeArr (P := P) (d := c1) hw hb ho
    exact fin _ _ (by rw [e2]; exact hr) (by rw [e2]; simp [AV.conc, Value.cells]) hm' hk
  | tup l => exact h.elim

end
end Go.V

/- Operations that make or write memory, and calls. -/
namespace Go.V
variable [BW]
set_option linter.unusedSimpArgs false
set_option linter.unusedVariables false

section
variable {P : Program}

theorem IS.of_run {N m : Nat} {d : Option Nat} {i : I} {e : Env} {H : Hp} {n : Nat} {K : Env → Hp → Nat → Prop}
    (h : ∀ (o : Oper), trI P o.type o.op = some i → ∀ w0 w a, Mem w0 H n w → Ag N e a →
      ∃ v H' n' w', (execOp a.eval o).run P w = .ok (.value v) w' ∧ n ≤ n' ∧ Mem w0 H' n' w' ∧ ∃ u : AV, v = u.conc ∧ K (putD d u e) H' n') : IS P N m d i e H n K := by
  intro o ht hd hN w0 w a Q K' hm hw hag hK
  obtain ⟨v, H', n', w', hr, hn, hm', u, rfl, hk⟩ := h o ht w0 w a hw hag
  unfold Oper.wp
  rw [hr]
  simp only [Oper.upon]
  exact hK _ _ _ _ _ hk hn (by rw [hd]; exact hag.putD hN u) hm'

theorem run_v' {s : Sem Value} {v : Value} {w w' : World} (h : s.run P w = .ok v w') : ((do let x ← s; pure (.value x)) : Sem Next).run P w = .ok (.value v) w' := by
  simp [h]

theorem run_newRow {w0 w : World} {H : Hp} {n : Nat} (h : Mem w0 H n w) (k : Blk) :
    (newRow k.ty (arrC k.size k.c)).run P w = .ok ⟨n, 0, none⟩ { w with heap := w.heap.push k.obj } := by
  simp [newRow, Blk.obj, h.size]

theorem IS.new {N m : Nat} {d : Option Nat} {t : TypeId} {z : Zs} {e : Env} {H : Hp} {n : Nat} {K : Env → Hp → Nat → Prop}
    (h : K (putD d (.s (.ptr n 0)) e) ((n, ⟨z.size, z.c, t⟩) :: H) (n + 1)) : IS P N m d (.new t z) e H n K := by
  refine IS.of_run fun o ht w0 w a hw hag => ?_
  obtain ⟨dst, op, ty, pos, after, guard⟩ := o
  dsimp only at ht
  obtain ⟨rfl, hz⟩ := inv_new ht
  obtain ⟨i, v, hi, hv, hc, hs⟩ := zOf_spec hz
  refine ⟨_, _, _, _, ?_, Nat.le_succ _, hw.push ⟨z.size, z.c, t⟩, _, rfl, h⟩
  simp only [execOp]
  refine run_v' ?_
  have hz' : (zeroValue t).run P w = .ok v w := by simp [zeroValue, typeInfo, hi, hv]
  have := run_newRow (P := P) hw ⟨z.size, z.c, t⟩
  simp [Instr.alloc, hz', newVar, hc, this, AV.conc, SV.conc]

def boxK (ty : TypeId) : AV → Option Blk
  | .s x => some ⟨1, fun _ => x, ty⟩
  | .arr m c => some ⟨m, c, ty⟩
  | .tup _ => none

theorem IS.box {N m : Nat} {d : Option Nat} {t : TypeId} {x : X} {e : Env} {H : Hp} {n : Nat} {K : Env → Hp → Nat → Prop} {v : AV} {k : Blk}
    (hx : x.ev e = some v) (hk : boxK t v = some k) (h : K (putD d (.s (.ptr n 0)) e) ((n, k) :: H) (n + 1)) : IS P N m d (.box t x) e H n K := by
  refine IS.of_run fun o ht w0 w a hw hag => ?_
  obtain ⟨dst, op, ty, pos, after, guard⟩ := o
  dsimp only at ht
  obtain ⟨x0, rfl, hx0⟩ := inv_box ht
  refine ⟨_, _, _, _, ?_, Nat.le_succ _, hw.push k, _, rfl, h⟩
  simp only [execOp]
  refine run_v' ?_
  have e1 := trX_eval hag hx0 hx
  have hc : (a.eval x0).cells = arrC k.size k.c ∧ k.ty = t := by
    rw [e1]
    cases v with
    | s x1 => cases hk; refine ⟨?_, rfl⟩; simp only [AV.conc, SV.cells]; apply arrC_ext
              · rfl
              · intro i hi; have : i = 0 := by omega
                subst this; rfl
    | arr m1 c1 => cases hk; exact ⟨rfl, rfl⟩
    | tup l => cases hk
  obtain ⟨hc, rfl⟩ := hc
  have := run_newRow (P := P) hw k
  simp [Instr.box, newVar, hc, this, AV.conc, SV.conc]

theorem run_bsl {N : Nat} {t : TypeId} {len sz : Nat} {z : Zs} {ps : List (Nat × Nat × X)} {e : Env} {H : Hp} {n : Nat} {c : Nat → SV} {o : Oper} {w0 w : World} {a : Act}
    (ht : trI P o.type o.op = some (.bsl t len sz z ps)) (hw : Mem w0 H n w) (hag : Ag N e a) (hp : placeAll e ps (fun i => z.c (i % sz)) = some c) :
    ∃ w', (execOp a.eval o).run P w = .ok (.value (AV.s (.slc n 0 len len)).conc) w' ∧ Mem w0 ((n, ⟨len * sz, c, t⟩) :: H) (n + 1) w' := by
  obtain ⟨dst, op, ty, pos, after, guard⟩ := o
  dsimp only at ht
  obtain ⟨t', qs, rfl, hu, hz, hs, hb, hs0, hl⟩ := inv_bsl ht
  obtain ⟨i, v, hi, hv, hc, hsz⟩ := zOf_spec hz
  simp only [sizeT, Option.map_eq_some_iff] at hs
  obtain ⟨ti, hti, rfl⟩ := hs
  have hii : ti = i := Option.some.inj (hti.symm.trans hi)
  subst hii
  refine ⟨_, ?_, hw.push ⟨len * ti.size, c, t⟩⟩
  simp only [execOp]
  refine run_v' ?_
  have hz' : (zeroValue t).run P w = .ok v w := by simp [zeroValue, typeInfo, hi, hv]
  have hss : (sizeOf t).run P w = .ok ti.size w := by simp [sizeOf, typeInfo, hti]
  have hfill := fill_placeAll hag (fun i => some (i * ti.size, ti.size)) (len * ti.size) _ _ _ _ hl hp
  have hr := run_newRow (P := P) hw ⟨len * ti.size, c, t⟩
  dsimp only at hr
  have hnb : ¬ (len * ti.size > 2 ^ 24) := by omega
  have hzero : ((Array.range (len * ti.size)).map (fun j => (if len * ti.size = 0 then (#[] : Array Value) else v.cells)[j % (if len * ti.size = 0 then (#[] : Array Value) else v.cells).size]!)) = arrC (len * ti.size) (fun i => z.c (i % ti.size)) := by
    apply arrC_ext
    · simp
    · intro j hj
      have h0 : len * ti.size ≠ 0 := by omega
      rw [if_neg h0, hc]
      have : j % ti.size < z.size := by rw [← hsz]; exact Nat.mod_lt _ (by omega)
      have hg := arrC_get z.size z.c _ this
      rw [hsz] at this hg ⊢
      have hj' : j < len * z.size := by rw [← hsz]; exact hj
      have hr : (Array.range (len * z.size))[j]? = some j := by simp [hj']
      rw [Array.getElem?_map, hr]
      simp [getElem!_def, hg]
  simp only [Instr.buildSlice, Sem.run_bind, run_underlying hu, Result.andThen_ok, hss]
  rw [if_neg hnb]
  by_cases h0 : len * ti.size = 0
  · simp only [h0, if_true] at hzero
    rw [if_pos h0]
    simp only [Sem.run_pure, Sem.run_bind, Result.andThen_ok, Array.map_map]
    rw [show (Array.map (fun x => match x with | (i, x) => (i, a.eval x)) qs).toList = qs.toList.map fun x => (x.1, a.eval x.2) by simp]
    rw [h0] at hfill hr ⊢
    rw [hzero, hfill]
    simp [hr, AV.conc, SV.conc]
  · simp only [h0, if_false] at hzero
    rw [if_neg h0]
    simp only [Sem.run_pure, Sem.run_bind, hz', Result.andThen_ok]
    rw [show (Array.map (fun x => match x with | (i, x) => (i, a.eval x)) qs).toList = qs.toList.map fun x => (x.1, a.eval x.2) by simp]
    rw [hzero, hfill]
    simp [hr, AV.conc, SV.conc]

theorem IS.bsl {N m : Nat} {d : Option Nat} {t : TypeId} {len sz : Nat} {z : Zs} {ps : List (Nat × Nat × X)} {e : Env} {H : Hp} {n : Nat} {K : Env → Hp → Nat → Prop} {c : Nat → SV}
    (hp : placeAll e ps (fun i => z.c (i % sz)) = some c) (h : K (putD d (.s (.slc n 0 len len)) e) ((n, ⟨len * sz, c, t⟩) :: H) (n + 1)) : IS P N m d (.bsl t len sz z ps) e H n K := by
  refine IS.of_run fun o ht w0 w a hw hag => ?_
  obtain ⟨w', hr, hm⟩ := run_bsl ht hw hag hp
  exact ⟨_, _, _, w', hr, Nat.le_succ _, hm, _, rfl, h⟩

/-! ### Calls -/

def evs (e : Env) : List X → Option (List AV)
  | [] => some []
  | x :: l => match x.ev e, evs e l with
    | some v, some r => some (v :: r)
    | _, _ => none

theorem evs_spec {N : Nat} {e : Env} {a : Act} (hag : Ag N e a) : ∀ (l : List Operand) (l' : List X) (r : List AV), l.mapM trX = some l' → evs e l' = some r → l.map a.eval = AV.concs r
  | [], l', r, h, hr => by
    simp at h; subst h
    simp only [evs, Option.some.injEq] at hr; subst hr; rfl
  | x :: l, l', r, h, hr => by
    simp only [List.mapM_cons, bind, Option.bind_eq_some_iff, pure, Option.some.injEq] at h
    obtain ⟨x', hx, l'', hl, rfl⟩ := h
    simp only [evs] at hr
    split at hr
    · rename_i v r' hv hr'
      cases hr
      simp only [List.map_cons, trX_eval hag hx hv, evs_spec hag l l'' r' hl hr']
      rfl
    · cases hr

theorem run_callFunc {f : FuncId} (hc : Callable P f) (args : Array Value) (w : World) : (callFunc f args).run P w = .ok (.enter f args) w := by
  obtain ⟨fn, hf, hb, hn⟩ := hc
  cases hbody : fn.body with
  | none => simp [hbody] at hb
  | some c =>
    have hn' : ¬ fn.name = "runtime.NumGoroutine" := by simpa using hn
    simp [callFunc, hf, hn', hbody]

theorem IS.of_enter {N m : Nat} {d : Option Nat} {i : I} {e : Env} {H : Hp} {n : Nat} {K : Env → Hp → Nat → Prop} {f : FuncId} {vs : List AV}
    (h : FnS P f vs H n fun v H' n' => K (putD d v e) H' n')
    (hr : ∀ (o : Oper), trI P o.type o.op = some i → ∀ (w : World) (a : Act), Ag N e a → (execOp a.eval o).run P w = .ok (.enter f (AV.concs vs).toArray) w) : IS P N m d i e H n K := by
  intro o ht hd hN w0 w a Q K' hm hw hag hK
  unfold Oper.wp
  rw [hr o ht w a hag, Oper.upon_enter]
  refine (h.2 w0 w hw).mono ?_
  rintro e' w' ⟨v, H', n', rfl, hn, hm', hk⟩
  exact hK _ _ _ _ _ hk hn (by rw [hd]; exact hag.putD hN v) hm'

theorem IS.call {N m : Nat} {d : Option Nat} {f : FuncId} {args : List X} {e : Env} {H : Hp} {n : Nat} {K : Env → Hp → Nat → Prop} {vs : List AV}
    (hv : evs e args = some vs) (h : FnS P f vs H n fun v H' n' => K (putD d v e) H' n') : IS P N m d (.call f args) e H n K := by
  refine IS.of_enter h fun o ht w a hag => ?_
  obtain ⟨dst, op, ty, pos, after, guard⟩ := o
  dsimp only at ht
  obtain ⟨c, rfl, hcal, hargs⟩ := inv_call ht
  have e1 := evs_spec hag _ _ _ hargs hv
  have e1' : c.args.map a.eval = (AV.concs vs).toArray := Array.toList_inj.1 (by rw [Array.toList_map]; exact e1)
  simp [execOp, resolve, hcal, Act.eval, Deferred.ofValue, invoke, run_callFunc h.1, e1']

theorem concs_append (a b : List AV) : AV.concs (a ++ b) = AV.concs a ++ AV.concs b := by
  simp [AV.concs_eq]
theorem concs_s (a : List SV) : AV.concs (a.map AV.s) = SV.concs a := by
  rw [AV.concs_eq, SV.concs_eq, List.map_map]
  rfl

theorem IS.callv {N m : Nat} {d : Option Nat} {f : FuncId} {pre post : List SV} {x : X} {args : List X} {e : Env} {H : Hp} {n : Nat} {K : Env → Hp → Nat → Prop} {vs : List AV}
    (hx : x.ev e = some (.s (.fn f pre post))) (hv : evs e args = some vs) (h : FnS P f (pre.map .s ++ vs ++ post.map .s) H n fun v H' n' => K (putD d v e) H' n') : IS P N m d (.callv x args) e H n K := by
  refine IS.of_enter h fun o ht w a hag => ?_
  obtain ⟨dst, op, ty, pos, after, guard⟩ := o
  dsimp only at ht
  obtain ⟨c, x0, rfl, hcal, hx0, hargs⟩ := inv_callv ht
  have e1 := evs_spec hag _ _ _ hargs hv
  have e2 := trX_eval hag hx0 hx
  have e1' : c.args.map a.eval = (AV.concs vs).toArray := Array.toList_inj.1 (by rw [Array.toList_map]; exact e1)
  simp only [execOp, resolve, hcal, e2, AV.conc, SV.conc, Deferred.ofValue, Sem.run_bind, Sem.run_pure, Result.andThen_ok, invoke, e1']
  rw [run_callFunc h.1]
  simp [concs_append, concs_s]

end
end Go.V
