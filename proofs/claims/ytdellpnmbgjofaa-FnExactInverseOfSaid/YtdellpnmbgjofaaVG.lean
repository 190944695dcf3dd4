/- Operations that make or write memory, and calls. -/
import Derived.Test.YtdellpnmbgjofaaVF
namespace Go.V
set_option linter.unusedSimpArgs false
set_option linter.unusedVariables false

section
variable {P : Program}

theorem IS.of_run {N m : Nat} {d : Option Nat} {i : I} {e : Env} {H : Hp} {n : Nat} {K : Env → Hp → Nat → Prop}
    (h : ∀ (o : Oper), trI P o.type o.op = some i → ∀ w0 w a, Mem w0 H n w → Ag N e a →
      ∃ v H' n' w', (execOp a.eval o).run P w = .ok (.value v) w' ∧ n ≤ n' ∧ Mem w0 H' n' w' ∧ ∃ u : AV, v = u.conc ∧ K (putD d u e) H' n') : IS P N m d i e H n K := by
  intro o ht hd hN w0 w a Q K' hm hw hag hK
  obtain ⟨v, H', n', w', hr, hn, hm', u, rfl, hk⟩ := h o ht w0 w a hw hag
  unfold Oper.wp
  rw [hr]
  simp only [Oper.upon]
  exact hK _ _ _ _ _ hk hn (by rw [hd]; exact hag.putD hN u) hm'

theorem run_v' {s : Sem Value} {v : Value} {w w' : World} (h : s.run P w = .ok v w') : ((do let x ← s; pure (.value x)) : Sem Next).run P w = .ok (.value v) w' := by
  simp [h]

theorem run_newRow {w0 w : World} {H : Hp} {n : Nat} (h : Mem w0 H n w) (k : Blk) :
    (newRow k.ty (arrC k.size k.c)).run P w = .ok ⟨n, 0, none⟩ { w with heap := w.heap.push k.obj } := by
  simp [newRow, Blk.obj, h.size]

theorem IS.new {N m : Nat} {d : Option Nat} {t : TypeId} {z : Zs} {e : Env} {H : Hp} {n : Nat} {K : Env → Hp → Nat → Prop}
    (h : K (putD d (.s (.ptr n 0)) e) ((n, ⟨z.size, z.c, t⟩) :: H) (n + 1)) : IS P N m d (.new t z) e H n K := by
  refine IS.of_run fun o ht w0 w a hw hag => ?_
  obtain ⟨dst, op, ty, pos, after, guard⟩ := o
  dsimp only at ht
  obtain ⟨rfl, hz⟩ := inv_new ht
  obtain ⟨i, v, hi, hv, hc, hs⟩ := zOf_spec hz
  refine ⟨_, _, _, _, ?_, Nat.le_succ _, hw.push ⟨z.size, z.c, t⟩, _, rfl, h⟩
  simp only [execOp]
  refine run_v' ?_
  have hz' : (zeroValue t).run P w = .ok v w := by simp [zeroValue, typeInfo, hi, hv]
  have := run_newRow (P := P) hw ⟨z.size, z.c, t⟩
  simp [Instr.alloc, hz', newVar, hc, this, AV.conc, SV.conc]

def boxK (ty : TypeId) : AV → Option Blk
  | .s x => some ⟨1, fun _ => x, ty⟩
  | .arr m c => some ⟨m, c, ty⟩
  | .tup _ => none

theorem IS.box {N m : Nat} {d : Option Nat} {t : TypeId} {x : X} {e : Env} {H : Hp} {n : Nat} {K : Env → Hp → Nat → Prop} {v : AV} {k : Blk}
    (hx : x.ev e = some v) (hk : boxK t v = some k) (h : K (putD d (.s (.ptr n 0)) e) ((n, k) :: H) (n + 1)) : IS P N m d (.box t x) e H n K := by
  refine IS.of_run fun o ht w0 w a hw hag => ?_
  obtain ⟨dst, op, ty, pos, after, guard⟩ := o
  dsimp only at ht
  obtain ⟨x0, rfl, hx0⟩ := inv_box ht
  refine ⟨_, _, _, _, ?_, Nat.le_succ _, hw.push k, _, rfl, h⟩
  simp only [execOp]
  refine run_v' ?_
  have e1 := trX_eval hag hx0 hx
  have hc : (a.eval x0).cells = arrC k.size k.c ∧ k.ty = t := by
    rw [e1]
    cases v with
    | s x1 => cases hk; refine ⟨?_, rfl⟩; simp only [AV.conc, SV.cells]; apply arrC_ext
              · rfl
              · intro i hi; have : i = 0 := by omega
                subst this; rfl
    | arr m1 c1 => cases hk; exact ⟨rfl, rfl⟩
    | tup l => cases hk
  obtain ⟨hc, rfl⟩ := hc
  have := run_newRow (P := P) hw k
  simp [Instr.box, newVar, hc, this, AV.conc, SV.conc]

theorem run_bsl {N : Nat} {t : TypeId} {len sz : Nat} {z : Zs} {ps : List (Nat × Nat × X)} {e : Env} {H : Hp} {n : Nat} {c : Nat → SV} {o : Oper} {w0 w : World} {a : Act}
    (ht : trI P o.type o.op = some (.bsl t len sz z ps)) (hw : Mem w0 H n w) (hag : Ag N e a) (hp : placeAll e ps (fun i => z.c (i % sz)) = some c) :
    ∃ w', (execOp a.eval o).run P w = .ok (.value (AV.s (.slc n 0 len len)).conc) w' ∧ Mem w0 ((n, ⟨len * sz, c, t⟩) :: H) (n + 1) w' := by
  obtain ⟨dst, op, ty, pos, after, guard⟩ := o
  dsimp only at ht
  obtain ⟨t', qs, rfl, hu, hz, hs, hb, hs0, hl⟩ := inv_bsl ht
  obtain ⟨i, v, hi, hv, hc, hsz⟩ := zOf_spec hz
  simp only [sizeT, Option.map_eq_some_iff] at hs
  obtain ⟨ti, hti, rfl⟩ := hs
  have hii : ti = i := Option.some.inj (hti.symm.trans hi)
  subst hii
  refine ⟨_, ?_, hw.push ⟨len * ti.size, c, t⟩⟩
  simp only [execOp]
  refine run_v' ?_
  have hz' : (zeroValue t).run P w = .ok v w := by simp [zeroValue, typeInfo, hi, hv]
  have hss : (sizeOf t).run P w = .ok ti.size w := by simp [sizeOf, typeInfo, hti]
  have hfill := fill_placeAll hag (fun i => some (i * ti.size, ti.size)) (len * ti.size) _ _ _ _ hl hp
  have hr := run_newRow (P := P) hw ⟨len * ti.size, c, t⟩
  dsimp only at hr
  have hnb : ¬ (len * ti.size > 2 ^ 24) := by omega
  have hzero : ((Array.range (len * ti.size)).map (fun j => (if len * ti.size = 0 then (#[] : Array Value) else v.cells)[j % (if len * ti.size = 0 then (#[] : Array Value) else v.cells).size]!)) = arrC (len * ti.size) (fun i => z.c (i % ti.size)) := by
    apply arrC_ext
    · simp
    · intro j hj
      have h0 : len * ti.size ≠ 0 := by omega
      rw [if_neg h0, hc]
      have : j % ti.size < z.size := by rw [← hsz]; exact Nat.mod_lt _ (by omega)
      have hg := arrC_get z.size z.c _ this
      rw [hsz] at this hg ⊢
      have hj' : j < len * z.size := by rw [← hsz]; exact hj
      have hr : (Array.range (len * z.size))[j]? = some j := by simp [hj']
      rw [Array.getElem?_map, hr]
      simp [getElem!_def, hg]
  simp only [Instr.buildSlice, Sem.run_bind, run_underlying hu, Result.andThen_ok, hss]
  rw [if_neg hnb]
  by_cases h0 : len * ti.size = 0
  · simp only [h0, if_true] at hzero
    rw [if_pos h0]
    simp only [Sem.run_pure, Sem.run_bind, Result.andThen_ok, Array.map_map]
    rw [show (Array.map (fun x => match x with | (i, x) => (i, a.eval x)) qs).toList = qs.toList.map fun x => (x.1, a.eval x.2) by simp]
    rw [h0] at hfill hr ⊢
    rw [hzero, hfill]
    simp [hr, AV.conc, SV.conc]
  · simp only [h0, if_false] at hzero
    rw [if_neg h0]
    simp only [Sem.run_pure, Sem.run_bind, hz', Result.andThen_ok]
    rw [show (Array.map (fun x => match x with | (i, x) => (i, a.eval x)) qs).toList = qs.toList.map fun x => (x.1, a.eval x.2) by simp]
    rw [hzero, hfill]
    simp [hr, AV.conc, SV.conc]

theorem IS.bsl {N m : Nat} {d : Option Nat} {t : TypeId} {len sz : Nat} {z : Zs} {ps : List (Nat × Nat × X)} {e : Env} {H : Hp} {n : Nat} {K : Env → Hp → Nat → Prop} {c : Nat → SV}
    (hp : placeAll e ps (fun i => z.c (i % sz)) = some c) (h : K (putD d (.s (.slc n 0 len len)) e) ((n, ⟨len * sz, c, t⟩) :: H) (n + 1)) : IS P N m d (.bsl t len sz z ps) e H n K := by
  refine IS.of_run fun o ht w0 w a hw hag => ?_
  obtain ⟨w', hr, hm⟩ := run_bsl ht hw hag hp
  exact ⟨_, _, _, w', hr, Nat.le_succ _, hm, _, rfl, h⟩

/-! ### Calls -/

def evs (e : Env) : List X → Option (List AV)
  | [] => some []
  | x :: l => match x.ev e, evs e l with
    | some v, some r => some (v :: r)
    | _, _ => none

theorem evs_spec {N : Nat} {e : Env} {a : Act} (hag : Ag N e a) : ∀ (l : List Operand) (l' : List X) (r : List AV), l.mapM trX = some l' → evs e l' = some r → l.map a.eval = AV.concs r
  | [], l', r, h, hr => by
    simp at h; subst h
    simp only [evs, Option.some.injEq] at hr; subst hr; rfl
  | x :: l, l', r, h, hr => by
    simp only [List.mapM_cons, bind, Option.bind_eq_some_iff, pure, Option.some.injEq] at h
    obtain ⟨x', hx, l'', hl, rfl⟩ := h
    simp only [evs] at hr
    split at hr
    · rename_i v r' hv hr'
      cases hr
      simp only [List.map_cons, trX_eval hag hx hv, evs_spec hag l l'' r' hl hr']
      rfl
    · cases hr

theorem run_callFunc {f : FuncId} (hc : Callable P f) (args : Array Value) (w : World) : (callFunc f args).run P w = .ok (.enter f args) w := by
  obtain ⟨fn, hf, hb, hn⟩ := hc
  cases hbody : fn.body with
  | none => simp [hbody] at hb
  | some c =>
    have hn' : ¬ fn.name = "runtime.NumGoroutine" := by simpa using hn
    simp [callFunc, hf, hn', hbody]

theorem IS.of_enter {N m : Nat} {d : Option Nat} {i : I} {e : Env} {H : Hp} {n : Nat} {K : Env → Hp → Nat → Prop} {f : FuncId} {vs : List AV}
    (h : FnS P f vs H n fun v H' n' => K (putD d v e) H' n')
    (hr : ∀ (o : Oper), trI P o.type o.op = some i → ∀ (w : World) (a : Act), Ag N e a → (execOp a.eval o).run P w = .ok (.enter f (AV.concs vs).toArray) w) : IS P N m d i e H n K := by
  intro o ht hd hN w0 w a Q K' hm hw hag hK
  unfold Oper.wp
  rw [hr o ht w a hag, Oper.upon_enter]
  refine (h.2 w0 w hw).mono ?_
  rintro e' w' ⟨v, H', n', rfl, hn, hm', hk⟩
  exact hK _ _ _ _ _ hk hn (by rw [hd]; exact hag.putD hN v) hm'

theorem IS.call {N m : Nat} {d : Option Nat} {f : FuncId} {args : List X} {e : Env} {H : Hp} {n : Nat} {K : Env → Hp → Nat → Prop} {vs : List AV}
    (hv : evs e args = some vs) (h : FnS P f vs H n fun v H' n' => K (putD d v e) H' n') : IS P N m d (.call f args) e H n K := by
  refine IS.of_enter h fun o ht w a hag => ?_
  obtain ⟨dst, op, ty, pos, after, guard⟩ := o
  dsimp only at ht
  obtain ⟨c, rfl, hcal, hargs⟩ := inv_call ht
  have e1 := evs_spec hag _ _ _ hargs hv
  have e1' : c.args.map a.eval = (AV.concs vs).toArray := Array.toList_inj.1 (by rw [Array.toList_map]; exact e1)
  simp [execOp, resolve, hcal, Act.eval, Deferred.ofValue, invoke, run_callFunc h.1, e1']

theorem concs_append (a b : List AV) : AV.concs (a ++ b) = AV.concs a ++ AV.concs b := by
  simp [AV.concs_eq]
theorem concs_s (a : List SV) : AV.concs (a.map AV.s) = SV.concs a := by
  rw [AV.concs_eq, SV.concs_eq, List.map_map]
  rfl

theorem IS.callv {N m : Nat} {d : Option Nat} {f : FuncId} {pre post : List SV} {x : X} {args : List X} {e : Env} {H : Hp} {n : Nat} {K : Env → Hp → Nat → Prop} {vs : List AV}
    (hx : x.ev e = some (.s (.fn f pre post))) (hv : evs e args = some vs) (h : FnS P f (pre.map .s ++ vs ++ post.map .s) H n fun v H' n' => K (putD d v e) H' n') : IS P N m d (.callv x args) e H n K := by
  refine IS.of_enter h fun o ht w a hag => ?_
  obtain ⟨dst, op, ty, pos, after, guard⟩ := o
  dsimp only at ht
  obtain ⟨c, x0, rfl, hcal, hx0, hargs⟩ := inv_callv ht
  have e1 := evs_spec hag _ _ _ hargs hv
  have e2 := trX_eval hag hx0 hx
  have e1' : c.args.map a.eval = (AV.concs vs).toArray := Array.toList_inj.1 (by rw [Array.toList_map]; exact e1)
  simp only [execOp, resolve, hcal, e2, AV.conc, SV.conc, Deferred.ofValue, Sem.run_bind, Sem.run_pure, Result.andThen_ok, invoke, e1']
  rw [run_callFunc h.1]
  simp [concs_append, concs_s]

end
end Go.V
