/- Control, loops, and whole functions. -/
import Derived.Test.YtgnphaopeplfbaaGreatDoorJag
set_option linter.unusedSectionVars false
set_option linter.unusedVariables false
set_option linter.unusedSimpArgs false
namespace Go.V
variable [BW]
set_option linter.unusedSimpArgs false
set_option linter.unusedVariables false

inductive Cd where
  | skip
  | reg (l : List Ins)
  | drw (q : Bool) (ks : List Nat) (l : List Ins)
  | mix (q e : List Ins)
  | drwo (q : Bool) (ks os : List Nat) (l : List Ins)
  | drwt (t : OT) (l : List Ins)
  | mixt (q1 q2 l : List Ins) (t : OT)
  | drwf (t : OT) (l : List Ins)
  | drwn (t : OT) (l : List Ins)
  | seq (a b : Cd)
  | cond (x : X) (a b : Cd)
  | block (id : Nat) (b : Cd)
  | loop (b : Cd)
  | exit (id : Nat)
  | ret
  deriving Inhabited

def isEff : I → Bool
  | .new .. | .box .. | .bsl .. | .st .. | .app .. | .cpy .. | .mks .. | .call .. | .callv .. => true
  | _ => false

def effIdx : Nat → List Ins → List Nat
  | _, [] => []
  | k, x :: l => if isEff x.i then k :: effIdx (k + 1) l else effIdx (k + 1) l

def isFx : I → Bool
  | .new .. | .box .. | .bsl .. | .st .. | .app .. | .cpy .. | .mks .. => true
  | _ => false
def isFx1 : I → Bool
  | .new .. | .st .. => true
  | _ => false
def isNew : I → Bool
  | .new .. => true
  | _ => false
def isFx2 : I → Bool
  | .new .. | .st .. | .bsl .. | .app .. => true
  | _ => false
def isApp : I → Bool
  | .app .. => true
  | _ => false
def idxOf (f : I → Bool) : Nat → List Ins → List Nat
  | _, [] => []
  | k, x :: l => if f x.i then k :: idxOf f (k + 1) l else idxOf f (k + 1) l
/-- What makes or fills blocks, and what waits for it. -/
def waitIdx (ops : Array Oper) : Nat → List Ins → List Nat → List Nat
  | _, [], acc => acc
  | k, x :: l, acc =>
    if isFx x.i || (match ops[k]? with | some o => o.after.any (fun e => Region.binds .any e && acc.contains e.on) | none => false) then waitIdx ops (k + 1) l (acc ++ [k]) else waitIdx ops (k + 1) l acc
def mixQ (ops : Array Oper) (l : List Ins) : List Nat := (List.range l.length).filter fun k => !(waitIdx ops 0 l []).contains k
def useMix (ops : Array Oper) (l : List Ins) : Bool :=
  (match idxOf isFx 0 l with
    | [] => false
    | f :: _ => !((effIdx 0 l).filter fun k => Region.lexTailB .any ops k).any (fun k => decide (k ≤ f)))
  && ((pick (waitIdx ops 0 l []) l).any (fun x => isNew x.i) && (pick (waitIdx ops 0 l []) l).all (fun x => isFx1 x.i || !isEff x.i)) && mixB .any ops (mixQ ops l) (waitIdx ops 0 l [])
/-- The tree of orders of what is left. -/
def treeE (md : Region.Mode) (ops : Array Oper) : Nat → Array Bool → Option OT
  | 0, listed => if (Region.ready md ops listed).isEmpty then some .done else none
  | f + 1, listed =>
    match Region.ready md ops listed with
    | [] => some .done
    | [k] => (treeE md ops f (listed.setIfInBounds k true)).map (.seg k)
    | [k1, k2] =>
      match treeE md ops f (listed.setIfInBounds k1 true), treeE md ops f (listed.setIfInBounds k2 true) with
      | some t1, some t2 => some (.fork (.seg k1 t1) (.seg k2 t2))
      | _, _ => none
    | [k1, k2, k3] =>
      match treeE md ops f (listed.setIfInBounds k1 true), treeE md ops f (listed.setIfInBounds k2 true), treeE md ops f (listed.setIfInBounds k3 true) with
      | some t1, some t2, some t3 => some (.fork (.seg k1 t1) (.fork (.seg k2 t2) (.seg k3 t3)))
      | _, _, _ => none
    | _ => none
/-- What does more than make a slice. -/
def harshQ (ops : Array Oper) (l : List Ins) : List Nat := (waitIdx ops 0 l []).filter fun k => match l[k]? with | some x => !gentleI x.i | none => true
/-- The quiet operations that all these wait for. -/
def earlyQ (ops : Array Oper) (l : List Ins) : List Nat :=
  (mixQ ops l).filter fun k => (harshQ ops l).all fun j => (match ops[j]? with | none => false | some o => o.after.any fun e => Region.binds .any e && (harshQ ops l).contains e.on) || depB .any ops 8 j k
def lateQ (ops : Array Oper) (l : List Ins) : List Nat := (mixQ ops l).filter fun k => !(earlyQ ops l).contains k
def mixTC (ops : Array Oper) (l : List Ins) : Bool :=
  (match idxOf isFx 0 l with
    | [] => false
    | f :: _ => !((effIdx 0 l).filter fun k => Region.lexTailB .any ops k).any (fun k => decide (k ≤ f)))
  && (pick (waitIdx ops 0 l []) l).all (fun x => isFx2 x.i || !isEff x.i)
def useMixT (ops : Array Oper) (l : List Ins) : Option (List Nat × List Nat × OT) :=
  if mixTC ops l then
    match treeE .any ops ops.size (listAll (earlyQ ops l ++ lateQ ops l) (Array.replicate ops.size false)) with
    | some t => if mix2B .any ops (earlyQ ops l) (lateQ ops l) (waitIdx ops 0 l []) (harshQ ops l) t then some (earlyQ ops l, lateQ ops l, t) else none
    | none => none
  else none

/-- An order in which pure operations come as early as they may. -/
def greedy (md : Region.Mode) (ops : Array Oper) (eff : Nat → Bool) : Nat → Array Bool → List Nat
  | 0, _ => []
  | f + 1, listed =>
    match (Region.ready md ops listed).find? (fun k => !eff k && Region.free md ops listed k) with
    | some k => k :: greedy md ops eff f (listed.setIfInBounds k true)
    | none =>
      match Region.ready md ops listed with
      | [k] => k :: greedy md ops eff f (listed.setIfInBounds k true)
      | _ => []
def effL (l : List Ins) (k : Nat) : Bool := match l[k]? with | some x => isCall x.i | none => false
/-- A call's result is an argument of a later call, or of a copy. -/
def callArg : List Nat → List Ins → Bool
  | _, [] => false
  | ds, ⟨d, _, .call _ args⟩ :: l => args.any (fun x => match x with | .t i => ds.contains i | _ => false) || callArg (match d with | some i => i :: ds | none => ds) l
  | ds, ⟨_, _, .cpy _ _ y⟩ :: l => (match y with | .t i => ds.contains i | _ => false) || callArg ds l
  | ds, _ :: l => callArg ds l
/-- A call's result is appended to. -/
def callApp : List Nat → List Ins → Bool
  | _, [] => false
  | ds, ⟨_, _, .app _ _ _ _ x _⟩ :: l => (match x with | .t i => ds.contains i | _ => false) || callApp ds l
  | ds, ⟨some d, _, .call _ _⟩ :: l => callApp (d :: ds) l
  | ds, _ :: l => callApp ds l
/-- The tree of orders in which pure operations come as early as they may. -/
def greedyT (md : Region.Mode) (ops : Array Oper) (eff : Nat → Bool) : Nat → Array Bool → Option OT
  | 0, listed => if (Region.ready md ops listed).isEmpty then some .done else none
  | f + 1, listed =>
    match (Region.ready md ops listed).find? (fun k => !eff k && Region.free md ops listed k) with
    | some k => (greedyT md ops eff f (listed.setIfInBounds k true)).map (.seg k)
    | none =>
      match Region.ready md ops listed with
      | [] => some .done
      | [k] => (greedyT md ops eff f (listed.setIfInBounds k true)).map (.seg k)
      | [k1, k2] =>
        match greedyT md ops eff f (listed.setIfInBounds k1 true), greedyT md ops eff f (listed.setIfInBounds k2 true) with
        | some t1, some t2 => some (.fork (.seg k1 t1) (.seg k2 t2))
        | _, _ => none
      | _ => none
def isBsl : I → Bool
  | .bsl .. => true
  | _ => false
def treeOk (ops : Array Oper) (l : List Ins) (t : OT) : Bool :=
  Region.noSelect ops && ordT .any ops (effL l) t (Array.replicate ops.size false) && decide (t.len ≤ ops.size) && t.under l.length
/-- The last operation of all orders. -/
def OT.lastOf : OT → Option Nat
  | .done => none
  | .seg k .done => some k
  | .seg _ t => t.lastOf
  | .fork t1 t2 => if t1.lastOf = t2.lastOf then t1.lastOf else none
/-- It waits for all others. -/
def lastTot (ops : Array Oper) (l : List Ins) (t : OT) : Bool := match t.lastOf with
  | none => false
  | some z => effL l z && (List.range ops.size).all fun i => i == z || depB .any ops ops.size z i
/-- A region in which a call's result is appended to. -/
def useF (ops : Array Oper) (l : List Ins) : Option OT :=
  if callApp [] l then
    match greedyT .any ops (effL l) ops.size (Array.replicate ops.size false) with
    | some t => if treeOk ops l t && lastTot ops l t then some t else none
    | none => none
  else none
/-- A region that makes slices in an open order. -/
def useTree (ops : Array Oper) (l : List Ins) : Option OT :=
  if l.any (fun x => isBsl x.i) && !l.any (fun x => isApp x.i) then
    match greedyT .any ops (effL l) ops.size (Array.replicate ops.size false) with
    | some t => if treeOk ops l t then some t else none
    | none => none
  else none
/-- Does a function return a slice? -/
def retSlice (P : Program) (f : FuncId) : Bool := match P.funcs[f]? with
  | some fn => fn.resultTypes.any fun t => match P.underlying t with | some (.slice _) => true | _ => false
  | none => false
/-- Does a function return a pointer? -/
def retPtr (P : Program) (f : FuncId) : Bool := match P.funcs[f]? with
  | some fn => fn.resultTypes.any fun t => match P.underlying t with | some (.pointer _) => true | _ => false
  | none => false
/-- A pointer that a call returns is handed to another call. -/
def ptrArg (P : Program) (l : List Ins) : Bool := l.any fun x => match x.i, x.d with
  | .call f _, some k => retPtr P f && l.any fun y => (match y.i with | .call _ as => as.any (fun a => match a with | .t j => j == k | _ => false) | _ => false)
  | _, _ => false
/-- Functions that draw a number: their calls are no quiet ones. -/
def isDraw (P : Program) (f : FuncId) : Bool := match P.funcs[f]? with
  | some fn => fn.name == "loop.example/g01230/spec.l01Next" || fn.name == "loop.example/g01230/spec.l01Any"
  | none => false
def hasDraw (P : Program) (l : List Ins) : Bool := l.any fun x => match x.i with | .call f _ => isDraw P f | _ => false
def ordOk (ops : Array Oper) (l : List Ins) (os : List Nat) : Bool :=
  Region.noSelect ops && ordB .any ops (effL l) os (Array.replicate ops.size false) && decide (os.length = ops.size) && os.all (fun k => decide (k < ops.size))
/-- An effect, or a call that returns a slice, comes ahead of what is in order. -/
def needsT (P : Program) (ops : Array Oper) (l : List Ins) : Bool :=
  match idxOf (fun i => isFx i || (match i with | .call f _ => retSlice P f | _ => false)) 0 l with
  | [] => false
  | f :: _ => !((effIdx 0 l).filter fun k => Region.lexTailB .any ops k).any (fun k => decide (k ≤ f))
/-- A region that nothing else fits. -/
def useElse (P : Program) (ops : Array Oper) (l : List Ins) : Bool :=
  needsT P ops l && (useTree ops l).isNone && !useMix ops l && (useF ops l).isNone && !(callArg [] l && ordOk ops l (greedy .any ops (effL l) ops.size (Array.replicate ops.size false))) && (useMixT ops l).isNone
/-- A region in which a slice that a call returns is used beside a new block. -/
def useN (P : Program) (ops : Array Oper) (l : List Ins) : Option OT :=
  if ((l.any (fun x => match x.i with | .call f _ => retSlice P f | _ => false) || ptrArg P l) && l.any (fun x => isNew x.i)) || hasDraw P l || useElse P ops l then
    match greedyT .any ops (effL l) ops.size (Array.replicate ops.size false) with
    | some t => if treeOk ops l t then some t else none
    | none => none
  else none

def tr (P : Program) (N : Nat) : Code → Option Cd
  | .skip => some .skip
  | .region _ ops draw => do
    let l ← ops.toList.mapM (trOp P N ops)
    if draw then
      if P.follows .mixedOrders then (match useN P ops l with | some t => some (.drwn t l) | none => match useTree ops l with | some t => some (.drwt t l) | none => if useMix ops l then some (.mix (pick (mixQ ops l) l) (pick (waitIdx ops 0 l []) l)) else (match useF ops l with | some t => some (.drwf t l) | none => if callArg [] l && ordOk ops l (greedy .any ops (effL l) ops.size (Array.replicate ops.size false)) then some (.drwo (Region.lexB .any ops) ((effIdx 0 l).filter fun k => Region.lexTailB .any ops k) (greedy .any ops (effL l) ops.size (Array.replicate ops.size false)) l) else (match useMixT ops l with | some (q1, q2, t) => some (.mixt (pick q1 l) (pick q2 l) l t) | none => some (.drw (Region.lexB .any ops) ((effIdx 0 l).filter fun k => Region.lexTailB .any ops k) l)))) else none
    else some (.reg l)
  | .seq a b => do some (.seq (← tr P N a) (← tr P N b))
  | .cond x a b => do some (.cond (← trX x) (← tr P N a) (← tr P N b))
  | .block id b => do some (.block id (← tr P N b))
  | .loop b => do some (.loop (← tr P N b))
  | .exit id => some (.exit id)
  | .ret => some .ret
  | _ => none

inductive Ex where
  | normal
  | exit (id : Nat)
  | ret

def Ex.real : Ex → Exit
  | .normal => .normal
  | .exit id => .exit id
  | .ret => .ret

def CS (P : Program) (N m : Nat) (c : Cd) (e : Env) (H : Hp) (n : Nat) (Q : Ex → Env → Hp → Nat → Prop) : Prop :=
  ∀ (code : Code), tr P N code = some c → ∀ (w0 w : World) (a : Act) (Q' : Exit → Act → World → Prop), w0.heap.size ≤ m → Mem w0 H n w → Ag N e a →
    (∀ x e' H' n' a' w', Q x e' H' n' → n ≤ n' → Ag N e' a' → Mem w0 H' n' w' → Q' x.real a' w') → code.wp P Q' a w

/-- Less is known of the frame. -/
def EnvLe : Env → Env → Prop
  | [], _ => True
  | (t, v) :: e1, e => e.get t = some v ∧ EnvLe e1 e

theorem EnvLe.get {e1 e : Env} (h : EnvLe e1 e) {t : Nat} {v : AV} (ht : e1.get t = some v) : e.get t = some v := by
  induction e1 with
  | nil => cases ht
  | cons x e1 ih =>
    obtain ⟨u, y⟩ := x
    rw [Env.get_cons] at ht
    split at ht
    · rename_i hu; subst hu; cases ht; exact h.1
    · exact ih h.2 ht

theorem Ag.le {N : Nat} {e1 e : Env} {a : Act} (h : Ag N e a) (hl : EnvLe e1 e) : Ag N e1 a :=
  ⟨h.size, h.defers, fun t v ht => h.get t v (hl.get ht)⟩

/-- Blocks from m on may be forgotten; a block's content may be said in other words. -/
def Drops (m : Nat) (H H1 : Hp) : Prop := ∀ b, (H1.get b = none ∧ (H.get b = none ∨ m ≤ b)) ∨
  ∃ k k1, H.get b = some k ∧ H1.get b = some k1 ∧ k.size = k1.size ∧ k.ty = k1.ty ∧ ∀ i, i < k.size → k.c i = k1.c i

theorem Drops.refl (m : Nat) (H : Hp) : Drops m H H := fun b => by
  cases h : H.get b with
  | none => exact .inl ⟨rfl, .inl rfl⟩
  | some k => exact .inr ⟨k, k, rfl, rfl, rfl, rfl, fun _ _ => rfl⟩
theorem Drops.drop {m : Nat} {H H1 : Hp} {b : Nat} {k : Blk} (hb : m ≤ b) (hn : H1.get b = none) (h : Drops m H H1) : Drops m ((b, k) :: H) H1 := by
  intro b'
  by_cases e : b = b'
  · subst e; exact .inl ⟨hn, .inr hb⟩
  · rw [Hp.get_ne _ _ e]; exact h b'
theorem Drops.keepc {m : Nat} {H H1 : Hp} {b : Nat} {k k1 : Blk} (hs : k.size = k1.size) (ht : k.ty = k1.ty) (hc : ∀ i, i < k.size → k.c i = k1.c i) (h : Drops m H H1) : Drops m ((b, k) :: H) ((b, k1) :: H1) := by
  intro b'
  by_cases e : b = b'
  · subst e; rw [Hp.get_eq, Hp.get_eq]; exact .inr ⟨k, k1, rfl, rfl, hs, ht, hc⟩
  · rw [Hp.get_ne _ _ e, Hp.get_ne _ _ e]; exact h b'
theorem Drops.keep {m : Nat} {H H1 : Hp} {b : Nat} {k : Blk} (h : Drops m H H1) : Drops m ((b, k) :: H) ((b, k) :: H1) := .keepc rfl rfl (fun _ _ => rfl) h
theorem Drops.setc {m : Nat} {H : Hp} {b : Nat} {k : Blk} {c c1 : Nat → SV} (hb : H.get b = some k) (hc : ∀ i, i < k.size → c i = c1 i) : Drops m (H.set b c) (H.set b c1) := by
  intro b'
  by_cases e : b = b'
  · subst e; exact .inr ⟨_, _, Hp.get_set_self c hb, Hp.get_set_self c1 hb, rfl, rfl, hc⟩
  · rw [Hp.get_set_other _ e, Hp.get_set_other _ e]; exact Drops.refl m H b'
theorem Drops.trans {m : Nat} {H H1 H2 : Hp} (h : Drops m H H1) (h2 : Drops m H1 H2) : Drops m H H2 := by
  intro b
  rcases h2 b with ⟨e2, e3⟩ | ⟨k1, k2, e1, e2, hs, ht, hc⟩
  · rcases h b with ⟨f1, f2⟩ | ⟨k, k1, f1, f2, _⟩
    · exact .inl ⟨e2, f2⟩
    · rcases e3 with e3 | e3
      · rw [f2] at e3; cases e3
      · exact .inl ⟨e2, .inr e3⟩
  · rcases h b with ⟨f1, f2⟩ | ⟨k, k1', f1, f2, hs', ht', hc'⟩
    · rw [f1] at e1; cases e1
    · rw [f2] at e1; cases e1
      exact .inr ⟨k, k2, f1, e2, hs'.trans hs, ht'.trans ht, fun i hi => (hc' i hi).trans (hc i (by omega))⟩

theorem Mem.drops {w0 w : World} {H H1 : Hp} {n m : Nat} (h : Mem w0 H n w) (hm : w0.heap.size ≤ m) (hd : Drops m H H1) : Mem w0 H1 n w := by
  refine ⟨h.size, h.base, h.os, h.tape, h.output, fun b k hb => ?_, fun b hb hn => ?_, h.frz, fun b off v hv => by
    obtain ⟨h1, h2, h3⟩ := h.ro b off v hv
    refine ⟨h1, ?_, h3⟩
    rcases hd b with ⟨e, _⟩ | ⟨k', k1, e1, e2, _⟩
    · exact e
    · rw [h2] at e1; cases e1⟩
  · rcases hd b with ⟨e, _⟩ | ⟨k', k1, e1, e2, hs, ht, hc⟩
    · rw [e] at hb; cases hb
    · rw [hb] at e2; cases e2
      rw [h.blk b k' e1]
      unfold Blk.obj
      rw [hs] at hc ⊢
      rw [arrC_congr hc, ht]
  · rcases hd b with ⟨_, e | e⟩ | ⟨k', k1, e1, e2, _⟩
    · exact h.frame b hb e
    · omega
    · rw [hn] at e2; cases e2

section
variable {P : Program} {N m : Nat}

theorem CS.weak {c : Cd} {e e1 : Env} {H H1 : Hp} {n : Nat} {Q : Ex → Env → Hp → Nat → Prop} (he : EnvLe e1 e) (hd : Drops m H H1) (h : CS P N m c e1 H1 n Q) : CS P N m c e H n Q := by
  intro code hc w0 w a Q' hm hw hag hQ
  exact h code hc w0 w a Q' hm (hw.drops hm hd) (hag.le he) hQ

theorem CS.mono {c : Cd} {e : Env} {H : Hp} {n : Nat} {Q Q1 : Ex → Env → Hp → Nat → Prop} (h : CS P N m c e H n Q) (hq : ∀ x e' H' n', n ≤ n' → Q x e' H' n' → Q1 x e' H' n') : CS P N m c e H n Q1 := by
  intro code hc w0 w a Q' hm hw hag hQ
  exact h code hc w0 w a Q' hm hw hag fun x e' H' n' a' w' hx hn => hQ x e' H' n' a' w' (hq _ _ _ _ hn hx) hn

theorem CS.skip {e : Env} {H : Hp} {n : Nat} {Q : Ex → Env → Hp → Nat → Prop} (h : Q .normal e H n) : CS P N m .skip e H n Q := by
  intro code hc w0 w a Q' hm hw hag hQ
  have : code = .skip := by
    cases code <;> simp only [tr, bind, Option.bind_eq_some_iff, Option.some.injEq, reduceCtorEq] at hc
    case skip => rfl
    all_goals (exfalso; (repeat' (first | (obtain ⟨_, _, hc⟩ := hc) | (split at hc) | cases hc)))
  subst this
  exact wp_skip (hQ _ _ _ _ _ _ h (Nat.le_refl _) hag hw)

theorem CS.exit {id : Nat} {e : Env} {H : Hp} {n : Nat} {Q : Ex → Env → Hp → Nat → Prop} (h : Q (.exit id) e H n) : CS P N m (.exit id) e H n Q := by
  intro code hc w0 w a Q' hm hw hag hQ
  have : code = .exit id := by
    cases code <;> simp only [tr, bind, Option.bind_eq_some_iff, Option.some.injEq, reduceCtorEq, Cd.exit.injEq] at hc
    case exit => rw [hc]
    all_goals (exfalso; (repeat' (first | (obtain ⟨_, _, hc⟩ := hc) | (split at hc) | cases hc)))
  subst this
  exact wp_exit (hQ _ _ _ _ _ _ h (Nat.le_refl _) hag hw)

theorem CS.ret {e : Env} {H : Hp} {n : Nat} {Q : Ex → Env → Hp → Nat → Prop} (h : Q .ret e H n) : CS P N m .ret e H n Q := by
  intro code hc w0 w a Q' hm hw hag hQ
  have : code = .ret := by
    cases code <;> simp only [tr, bind, Option.bind_eq_some_iff, Option.some.injEq, reduceCtorEq] at hc
    case ret => rfl
    all_goals (exfalso; (repeat' (first | (obtain ⟨_, _, hc⟩ := hc) | (split at hc) | cases hc)))
  subst this
  exact wp_ret (hQ _ _ _ _ _ _ h (Nat.le_refl _) hag hw)

theorem inv_reg {l : List Ins} {code : Code} (hc : tr P N code = some (.reg l)) : ∃ id ops, code = .region id ops false ∧ ops.toList.mapM (trOp P N ops) = some l := by
  cases code <;> simp only [tr, bind, Option.bind_eq_some_iff, Option.some.injEq, reduceCtorEq] at hc
  case region id ops draw =>
    obtain ⟨l', hl, hc⟩ := hc
    split at hc
    · split at hc
      · split at hc
        · cases hc
        split at hc
        · cases hc
        · split at hc
          · cases hc
          · split at hc
            · cases hc
            · split at hc
              · cases hc
              · split at hc <;> cases hc
      · cases hc
    · rename_i hd
      cases hc
      exact ⟨id, ops, by cases draw <;> simp_all, hl⟩
  all_goals (exfalso; (repeat' (first | (obtain ⟨_, _, hc⟩ := hc) | (split at hc) | cases hc)))

theorem inv_drw {q : Bool} {ks : List Nat} {l : List Ins} {code : Code} (hc : tr P N code = some (.drw q ks l)) :
    ∃ id ops, code = .region id ops true ∧ ops.toList.mapM (trOp P N ops) = some l ∧ P.follows .mixedOrders = true ∧ q = Region.lexB .any ops ∧ ∀ k ∈ ks, Region.lexTailB .any ops k = true := by
  cases code <;> simp only [tr, bind, Option.bind_eq_some_iff, Option.some.injEq, reduceCtorEq] at hc
  case region id ops draw =>
    obtain ⟨l', hl, hc⟩ := hc
    split at hc
    · rename_i hd
      split at hc
      · rename_i hf
        split at hc
        · cases hc
        split at hc
        · cases hc
        · split at hc
          · cases hc
          · split at hc
            · cases hc
            · split at hc
              · cases hc
              · split at hc
                · cases hc
                · cases hc
                  exact ⟨id, ops, by rw [hd], hl, hf, rfl, fun k hk => (List.mem_filter.1 hk).2⟩
      · cases hc
    · cases hc
  all_goals (exfalso; (repeat' (first | (obtain ⟨_, _, hc⟩ := hc) | (split at hc) | cases hc)))

theorem inv_mix {q es : List Ins} {code : Code} (hc : tr P N code = some (.mix q es)) :
    ∃ id ops l ks ls, code = .region id ops true ∧ ops.toList.mapM (trOp P N ops) = some l ∧ P.follows .mixedOrders = true ∧ mixB .any ops ks ls = true ∧ q = pick ks l ∧ es = pick ls l := by
  cases code <;> simp only [tr, bind, Option.bind_eq_some_iff, Option.some.injEq, reduceCtorEq] at hc
  case region id ops draw =>
    obtain ⟨l', hl, hc⟩ := hc
    split at hc
    · rename_i hd
      split at hc
      · rename_i hf
        split at hc
        · cases hc
        split at hc
        · cases hc
        · split at hc
          · rename_i hB
            cases hc
            unfold useMix at hB
            simp only [Bool.and_eq_true] at hB
            exact ⟨id, ops, l', _, _, by rw [hd], hl, hf, hB.2, rfl, rfl⟩
          · split at hc
            · cases hc
            · split at hc
              · cases hc
              · split at hc <;> cases hc
      · cases hc
    · cases hc
  all_goals (exfalso; (repeat' (first | (obtain ⟨_, _, hc⟩ := hc) | (split at hc) | cases hc)))

theorem CS.mix {q es : List Ins} {e : Env} {H : Hp} {n : Nat} {Q : Ex → Env → Hp → Nat → Prop}
    (h : QS P N q e H n fun e1 => MS P N m H n es e1 H fun e2 H2 => ∀ n', n ≤ n' → (∀ b k, H2.get b = some k → b < n') → Q .normal e2 H2 n') : CS P N m (.mix q es) e H n Q := by
  intro code hc w0 w a Q' hm hw hag hQ
  obtain ⟨id, ops, l, ks, ls, rfl, hl, hf, hB, rfl, rfl⟩ := inv_mix hc
  have hB' := hB
  simp only [mixB, Bool.and_eq_true, decide_eq_true_eq] at hB'
  obtain ⟨⟨⟨⟨⟨h1, h2⟩, h3⟩, h4⟩, h5⟩, h6⟩ := hB'
  have hks : ∀ k ∈ ks, k < ops.size ∧ ls.contains k = false := fun k hk => by
    have := List.all_eq_true.1 h5 k hk
    simpa only [Bool.and_eq_true, decide_eq_true_eq, Bool.not_eq_true'] using this
  have hls : ∀ k ∈ ls, k < ops.size ∧ ls.contains k = true := fun k hk =>
    ⟨by simpa only [decide_eq_true_eq] using List.all_eq_true.1 h6 k hk, by simpa using hk⟩
  refine wp_region_mix (K := fun a Hc => ∃ e2, Ag N e2 a ∧ ∀ n', n ≤ n' → (∀ b k, Hc.get b = some k → b < n') → Q .normal e2 Hc n') hf hB hm hw
    (fun a Hc n' w ⟨e2, hag2, hk⟩ hn hw' => hQ .normal e2 Hc n' a w (hk n' hn fun b k hb => hw'.lt hb) hn hag2 hw') ?_
  refine wpI_of_q ls H ks a hks (h ops (pick ks ops.toList) (pick_mapM hl ks fun k hk => by simpa using (hks k hk).1) a _ hag fun e1 a1 hk1 hag1 => ?_)
  refine wpI_of_ef ls a1 H hls ?_
  exact hk1 ops (pick ls ops.toList) (pick_mapM hl ls fun k hk => by simpa using (hls k hk).1) a1 _ hag1 (fun _ _ h => h) (fun b hb => hw.fresh hb) fun e2 a2 H2 hk2 hag2 _ => ⟨e2, hag2, hk2⟩

theorem inv_drwo {q : Bool} {ks os : List Nat} {l : List Ins} {code : Code} (hc : tr P N code = some (.drwo q ks os l)) :
    ∃ id ops, code = .region id ops true ∧ ops.toList.mapM (trOp P N ops) = some l ∧ P.follows .mixedOrders = true ∧ q = Region.lexB .any ops ∧ (∀ k ∈ ks, Region.lexTailB .any ops k = true) ∧ ordOk ops l os = true := by
  cases code <;> simp only [tr, bind, Option.bind_eq_some_iff, Option.some.injEq, reduceCtorEq] at hc
  case region id ops draw =>
    obtain ⟨l', hl, hc⟩ := hc
    split at hc
    · rename_i hd
      split at hc
      · rename_i hf
        split at hc
        · cases hc
        split at hc
        · cases hc
        · split at hc
          · cases hc
          · split at hc
            · cases hc
            · split at hc
              · rename_i hB
                cases hc
                simp only [Bool.and_eq_true] at hB
                exact ⟨id, ops, by rw [hd], hl, hf, rfl, fun k hk => (List.mem_filter.1 hk).2, hB.2⟩
              · split at hc <;> cases hc
      · cases hc
    · cases hc
  all_goals (exfalso; (repeat' (first | (obtain ⟨_, _, hc⟩ := hc) | (split at hc) | cases hc)))

theorem inv_drwf {t : OT} {l : List Ins} {code : Code} (hc : tr P N code = some (.drwf t l)) :
    ∃ id ops, code = .region id ops true ∧ ops.toList.mapM (trOp P N ops) = some l ∧ P.follows .mixedOrders = true ∧ treeOk ops l t = true ∧ lastTot ops l t = true := by
  cases code <;> simp only [tr, bind, Option.bind_eq_some_iff, Option.some.injEq, reduceCtorEq] at hc
  case region id ops draw =>
    obtain ⟨l', hl, hc⟩ := hc
    split at hc
    · rename_i hd
      split at hc
      · rename_i hf
        split at hc
        · cases hc
        split at hc
        · cases hc
        · split at hc
          · cases hc
          · split at hc
            · rename_i tt hT
              cases hc
              unfold useF at hT
              split at hT
              · split at hT
                · split at hT
                  · rename_i hB
                    cases hT
                    rw [Bool.and_eq_true] at hB
                    exact ⟨id, ops, by rw [hd], hl, hf, hB.1, hB.2⟩
                  · cases hT
                · cases hT
              · cases hT
            · split at hc
              · cases hc
              · split at hc <;> cases hc
      · cases hc
    · cases hc
  all_goals (exfalso; (repeat' (first | (obtain ⟨_, _, hc⟩ := hc) | (split at hc) | cases hc)))

theorem inv_drwn {t : OT} {l : List Ins} {code : Code} (hc : tr P N code = some (.drwn t l)) :
    ∃ id ops, code = .region id ops true ∧ ops.toList.mapM (trOp P N ops) = some l ∧ P.follows .mixedOrders = true ∧ treeOk ops l t = true := by
  cases code <;> simp only [tr, bind, Option.bind_eq_some_iff, Option.some.injEq, reduceCtorEq] at hc
  case region id ops draw =>
    obtain ⟨l', hl, hc⟩ := hc
    split at hc
    · rename_i hd
      split at hc
      · rename_i hf
        split at hc
        · rename_i tt hT
          cases hc
          unfold useN at hT
          split at hT
          · split at hT
            · split at hT
              · rename_i hB
                cases hT
                exact ⟨id, ops, by rw [hd], hl, hf, hB⟩
              · cases hT
            · cases hT
          · cases hT
        split at hc
        · cases hc
        · split at hc
          · cases hc
          · split at hc
            · cases hc
            · split at hc
              · cases hc
              · split at hc <;> cases hc
      · cases hc
    · cases hc
  all_goals (exfalso; (repeat' (first | (obtain ⟨_, _, hc⟩ := hc) | (split at hc) | cases hc)))

theorem inv_drwt {t : OT} {l : List Ins} {code : Code} (hc : tr P N code = some (.drwt t l)) :
    ∃ id ops, code = .region id ops true ∧ ops.toList.mapM (trOp P N ops) = some l ∧ P.follows .mixedOrders = true ∧ treeOk ops l t = true := by
  cases code <;> simp only [tr, bind, Option.bind_eq_some_iff, Option.some.injEq, reduceCtorEq] at hc
  case region id ops draw =>
    obtain ⟨l', hl, hc⟩ := hc
    split at hc
    · rename_i hd
      split at hc
      · rename_i hf
        split at hc
        · cases hc
        split at hc
        · rename_i t' hT
          cases hc
          unfold useTree at hT
          split at hT
          · split at hT
            · split at hT
              · rename_i hB
                cases hT
                exact ⟨id, ops, by rw [hd], hl, hf, hB⟩
              · cases hT
            · cases hT
          · cases hT
        · split at hc
          · cases hc
          · split at hc
            · cases hc
            · split at hc
              · cases hc
              · split at hc <;> cases hc
      · cases hc
    · cases hc
  all_goals (exfalso; (repeat' (first | (obtain ⟨_, _, hc⟩ := hc) | (split at hc) | cases hc)))

theorem inv_mixt {q1 q2 l : List Ins} {t : OT} {code : Code} (hc : tr P N code = some (.mixt q1 q2 l t)) :
    ∃ id ops k1 k2 es hs, code = .region id ops true ∧ ops.toList.mapM (trOp P N ops) = some l ∧ P.follows .mixedOrders = true ∧ mix2B .any ops k1 k2 es hs t = true ∧ q1 = pick k1 l ∧ q2 = pick k2 l ∧ hs = es.filter fun k => match l[k]? with | some x => !gentleI x.i | none => true := by
  cases code <;> simp only [tr, bind, Option.bind_eq_some_iff, Option.some.injEq, reduceCtorEq] at hc
  case region id ops draw =>
    obtain ⟨l', hl, hc⟩ := hc
    split at hc
    · rename_i hd
      split at hc
      · rename_i hf
        split at hc
        · cases hc
        split at hc
        · cases hc
        · split at hc
          · cases hc
          · split at hc
            · cases hc
            · split at hc
              · cases hc
              · split at hc
                · rename_i k1 k2 t' hT
                  cases hc
                  unfold useMixT at hT
                  split at hT
                  · split at hT
                    · split at hT
                      · rename_i hB
                        cases hT
                        exact ⟨id, ops, _, _, _, _, by rw [hd], hl, hf, hB, rfl, rfl, rfl⟩
                      · cases hT
                    · cases hT
                  · cases hT
                · cases hc
      · cases hc
    · cases hc
  all_goals (exfalso; (repeat' (first | (obtain ⟨_, _, hc⟩ := hc) | (split at hc) | cases hc)))

/-- Two new blocks, or stores into blocks that are there: F is what no effect touches. -/
theorem CS.mixt {q1 q2 l : List Ins} {t : OT} {e : Env} {H F : Hp} {n : Nat} {Q : Ex → Env → Hp → Nat → Prop} (hF : Ext F H)
    (h : QS P N q1 e H n fun e1 => QS P N q2 e1 F n fun e2 => MT P N m F n l t e2 H fun e3 H3 => ∀ n', n ≤ n' → (∀ b k, H3.get b = some k → b < n') → Q .normal e3 H3 n') : CS P N m (.mixt q1 q2 l t) e H n Q := by
  intro code hc w0 w a Q' hm hw hag hQ
  obtain ⟨id, ops, k1, k2, es, hs, rfl, hl, hf, hB, rfl, rfl, hhs⟩ := inv_mixt hc
  have hgl : ∀ i o, ops[i]? = some o → es.contains i = true → hs.contains i = false → gentle P o = true := fun i o ho he hn => by
    have ho' : ops.toList[i]? = some o := by simpa using ho
    have hg2 := mapM_some_get hl i o ho'
    have hlt : i < l.length := by
      have := mapM_some_length hl
      obtain ⟨h5, _⟩ := List.getElem?_eq_some_iff.1 ho'
      omega
    have hlx : l[i]? = some l[i] := by simp [hlt]
    obtain ⟨x, hxd⟩ : ∃ x, x = l[i] := ⟨_, rfl⟩
    rw [← hxd] at hlx
    have hx : trOp P N ops o = some x := hg2.trans hlx
    rw [gentle_of (trOp_spec hx).1]
    rw [hhs] at hn
    cases hg : gentleI x.i with
    | true => rfl
    | false =>
      exfalso
      have : (es.filter fun k => match l[k]? with | some x => !gentleI x.i | none => true).contains i = true := by
        rw [List.contains_iff_mem, List.mem_filter]
        exact ⟨by simpa using he, by simp only [hlx, hg]; rfl⟩
      rw [this] at hn
      cases hn
  have hB' := hB
  simp only [mix2B, Bool.and_eq_true, decide_eq_true_eq] at hB'
  obtain ⟨⟨⟨⟨⟨⟨⟨h1, h2⟩, h3⟩, h4⟩, h5⟩, h6⟩, h7⟩, h8⟩ := hB'
  have hq : ∀ k ∈ k1 ++ k2, k < ops.size ∧ es.contains k = false := fun k hk => by
    have := List.all_eq_true.1 h5 k hk
    simpa only [Bool.and_eq_true, decide_eq_true_eq, Bool.not_eq_true'] using this
  have hq1 : ∀ k ∈ k1, k < ops.size ∧ es.contains k = false ∧ fr H F (fun i => k1.contains i) k = H := fun k hk => by
    have h9 := hq k (by simp [hk])
    refine ⟨h9.1, h9.2, ?_⟩
    unfold fr
    rw [if_pos (by simpa using hk)]
  have hq2 : ∀ k ∈ k2, k < ops.size ∧ es.contains k = false ∧ fr H F (fun i => k1.contains i) k = F := fun k hk => by
    have h9 := hq k (by simp [hk])
    refine ⟨h9.1, h9.2, ?_⟩
    have h10 := List.all_eq_true.1 h8 k hk
    unfold fr
    rw [if_neg (by simpa using h10)]
  refine wp_region_mix2 (F := F) (K := fun a Hc => ∃ e2, Ag N e2 a ∧ ∀ n', n ≤ n' → (∀ b k, Hc.get b = some k → b < n') → Q .normal e2 Hc n') hf hgl hB hF hm hw
    (fun a Hc n' w ⟨e2, hag2, hk⟩ hn hw' => hQ .normal e2 Hc n' a w (hk n' hn fun b k hb => hw'.lt hb) hn hag2 hw') ?_
  refine wpI2_of_q (G := H) k2 H k1 a hq1 (h ops (pick k1 ops.toList) (pick_mapM hl k1 fun k hk => by simpa using (hq1 k hk).1) a _ hag fun e1 a1 hk1 hag1 => ?_)
  have h11 := wpI2_of_q (P := P) (H := H) (m := m) (K := wpE P ops H F n m (fun i => es.contains i) (fun i => k1.contains i) (fun a Hc => ∃ e2, Ag N e2 a ∧ ∀ n', n ≤ n' → (∀ b k, Hc.get b = some k → b < n') → Q .normal e2 Hc n') t) (G := F) [] H k2 a1 hq2
    (hk1 ops (pick k2 ops.toList) (pick_mapM hl k2 fun k hk => by simpa using (hq2 k hk).1) a1 _ hag1 fun e2 a2 hk2 hag2 =>
      hk2 ops H _ _ hl h6 a2 _ hag2 hF (fun b hb => by
        cases hx : F.get b with
        | none => rfl
        | some k => have := hF b k hx; rw [hw.fresh hb] at this; cases this) fun e3 a3 H3 hk3 hag3 => ⟨e3, hag3, hk3⟩)
  rwa [List.append_nil] at h11

theorem omatch_of {ops : Array Oper} {l : List Ins} (hl : ops.toList.mapM (trOp P N ops) = some l) : ∀ (os : List Nat), (∀ k ∈ os, k < ops.size) → OMatch P N ops (effL l) isCall os (pick os l)
  | [], _ => by simp [pick, OMatch]
  | k :: os, hk => by
    have hlt := hk k (by simp)
    have hlr := mapM_some_length hl
    have hg := mapM_some_get hl k ops[k] (by simp [hlt])
    have hx : l[k]? = some (l[k]'(by rw [hlr]; simpa using hlt)) := by simp
    have ih := omatch_of hl os (fun k' hk' => hk k' (by simp [hk']))
    unfold pick at *
    rw [List.filterMap_cons, hx]
    refine ⟨⟨ops[k], by simp [hlt], by rw [hg, hx], ?_⟩, ih⟩
    unfold effL
    rw [hx]

theorem CS.ord {q : Bool} {ks os : List Nat} {l : List Ins} {e : Env} {H : Hp} {n : Nat} {Q : Ex → Env → Hp → Nat → Prop}
    (h : OS P N m (pick os l) e H n fun e2 H2 => ∀ n', n ≤ n' → (∀ b k, H2.get b = some k → b < n') → Q .normal e2 H2 n') : CS P N m (.drwo q ks os l) e H n Q := by
  intro code hc w0 w a Q' hm hw hag hQ
  obtain ⟨id, ops, rfl, hl, hf, hq, hks, hB⟩ := inv_drwo hc
  simp only [ordOk, Bool.and_eq_true, decide_eq_true_eq] at hB
  obtain ⟨⟨⟨h1, h2⟩, h3⟩, h4⟩ := hB
  have hos : ∀ k ∈ os, k < ops.size := fun k hk => by simpa only [decide_eq_true_eq] using List.all_eq_true.1 h4 k hk
  refine wp_region_ord (K := fun a Hc => ∃ e2, Ag N e2 a ∧ ∀ n', n ≤ n' → (∀ b k, Hc.get b = some k → b < n') → Q .normal e2 Hc n') hf h1 h2 h3 hm hw
    (fun a Hc n' w ⟨e2, hag2, hk⟩ hn hw' => hQ .normal e2 Hc n' a w (hk n' hn fun b k hb => hw'.lt hb) hn hag2 hw') ?_
  exact h.zero ops os (effL l) (omatch_of hl os hos) a _ hag fun e2 a2 H2 hk2 hag2 => ⟨e2, hag2, hk2⟩

theorem CS.tree {t : OT} {l : List Ins} {e : Env} {H : Hp} {n : Nat} {Q : Ex → Env → Hp → Nat → Prop}
    (h : OTS P N m l t e H n fun e2 H2 => ∀ n', n ≤ n' → (∀ b k, H2.get b = some k → b < n') → Q .normal e2 H2 n') : CS P N m (.drwt t l) e H n Q := by
  intro code hc w0 w a Q' hm hw hag hQ
  obtain ⟨id, ops, rfl, hl, hf, hB⟩ := inv_drwt hc
  simp only [treeOk, Bool.and_eq_true, decide_eq_true_eq] at hB
  obtain ⟨⟨⟨h1, h2⟩, h3⟩, h4⟩ := hB
  have hlr : l.length = ops.size := by rw [mapM_some_length hl]; simp
  refine wp_region_tree (K := fun a Hc => ∃ e2, Ag N e2 a ∧ ∀ n', n ≤ n' → (∀ b k, Hc.get b = some k → b < n') → Q .normal e2 Hc n') hf h1 h2 h3 hm hw
    (fun a Hc n' w ⟨e2, hag2, hk⟩ hn hw' => hQ .normal e2 Hc n' a w (hk n' hn fun b k hb => hw'.lt hb) hn hag2 hw') ?_
  exact h ops (effL l) (fun os hos => omatch_of hl os fun k hk => by rw [← hlr]; exact hos k hk) h4 a _ hag fun e2 a2 H2 hk2 hag2 => ⟨e2, hag2, hk2⟩

theorem CS.quieto {ks os : List Nat} {l : List Ins} {e : Env} {H : Hp} {n : Nat} {Q : Ex → Env → Hp → Nat → Prop}
    (h : QS P N l e H n fun e' => ∀ n', n ≤ n' → Q .normal e' H n') : CS P N m (.drwo true ks os l) e H n Q := by
  intro code hc w0 w a Q' hm hw hag hQ
  obtain ⟨id, ops, rfl, hl, hf, hq, hks, _⟩ := inv_drwo hc
  refine wp_region_quiet (C := fun w => ∃ n', n ≤ n' ∧ Mem w0 H n' w) hf hq.symm ⟨n, Nat.le_refl _, hw.drew _⟩ ?_
  exact wpQ.quiet w0 (h ops ops.toList hl a _ hag fun e' a' hk hag' w' ⟨n', hn, hw'⟩ => hQ .normal e' H n' a' w' (hk n' hn) hn hag' hw')

theorem CS.reg {l : List Ins} {e : Env} {H : Hp} {n : Nat} {Q : Ex → Env → Hp → Nat → Prop} (h : RS P N m l e H n (Q .normal)) : CS P N m (.reg l) e H n Q := by
  intro code hc w0 w a Q' hm hw hag hQ
  obtain ⟨id, ops, rfl, hl⟩ := inv_reg hc
  exact wp_region_list (h ops ops.toList hl w0 w a Q' hm hw hag fun e' H' n' a' w' hk hn hag' hw' => hQ .normal e' H' n' a' w' hk hn hag' hw')

theorem CS.quiet {ks : List Nat} {l : List Ins} {e : Env} {H : Hp} {n : Nat} {Q : Ex → Env → Hp → Nat → Prop}
    (h : QS P N l e H n fun e' => ∀ n', n ≤ n' → Q .normal e' H n') : CS P N m (.drw true ks l) e H n Q := by
  intro code hc w0 w a Q' hm hw hag hQ
  obtain ⟨id, ops, rfl, hl, hf, hq, hks⟩ := inv_drw hc
  refine wp_region_quiet (C := fun w => ∃ n', n ≤ n' ∧ Mem w0 H n' w) hf hq.symm ⟨n, Nat.le_refl _, hw.drew _⟩ ?_
  exact wpQ.quiet w0 (h ops ops.toList hl a _ hag fun e' a' hk hag' w' ⟨n', hn, hw'⟩ => hQ .normal e' H n' a' w' (hk n' hn) hn hag' hw')

theorem mapM_take {α β : Type} {f : α → Option β} : ∀ {l' : List α} {l : List β} (k : Nat), l'.mapM f = some l → (l'.take k).mapM f = some (l.take k) ∧ (l'.drop k).mapM f = some (l.drop k)
  | [], l, k, h => by simp at h; subst h; simp
  | x :: l', l, 0, h => by simpa using h
  | x :: l', l, k + 1, h => by
    simp only [List.mapM_cons, bind, Option.bind_eq_some_iff, pure, Option.some.injEq] at h
    obtain ⟨y, hy, r, hr, rfl⟩ := h
    have := mapM_take k hr
    simp [List.mapM_cons, hy, this.1, this.2]

theorem CS.tail {q : Bool} {ks : List Nat} {l : List Ins} {e : Env} {H : Hp} {n : Nat} {Q : Ex → Env → Hp → Nat → Prop} (k : Nat) (hk : k ∈ ks)
    (h : QS P N (l.take k) e H n fun e' => ∀ n', n ≤ n' → RS P N m (l.drop k) e' H n' (Q .normal)) : CS P N m (.drw q ks l) e H n Q := by
  intro code hc w0 w a Q' hm hw hag hQ
  obtain ⟨id, ops, rfl, hl, hf, hq, hks⟩ := inv_drw hc
  obtain ⟨h1, h2⟩ := mapM_take k hl
  refine wp_region_quietTail (C := fun w => ∃ n', n ≤ n' ∧ Mem w0 H n' w) k hf (hks k hk) ⟨n, Nat.le_refl _, hw.drew _⟩ ?_
  refine wpQ.quiet w0 (h ops (ops.toList.take k) h1 a _ hag fun e' a' hk hag' w' ⟨n', hn, hw'⟩ => ?_)
  exact hk n' hn ops (ops.toList.drop k) h2 w0 w' a' Q' hm hw' hag' fun e2 H2 n2 a2 w2 hk2 hn2 hag2 hw2 => hQ .normal e2 H2 n2 a2 w2 hk2 (by omega) hag2 hw2

theorem CS.tailo {q : Bool} {ks os : List Nat} {l : List Ins} {e : Env} {H : Hp} {n : Nat} {Q : Ex → Env → Hp → Nat → Prop} (k : Nat) (hk : k ∈ ks)
    (h : QS P N (l.take k) e H n fun e' => ∀ n', n ≤ n' → RS P N m (l.drop k) e' H n' (Q .normal)) : CS P N m (.drwo q ks os l) e H n Q := by
  intro code hc w0 w a Q' hm hw hag hQ
  obtain ⟨id, ops, rfl, hl, hf, hq, hks, _⟩ := inv_drwo hc
  obtain ⟨h1, h2⟩ := mapM_take k hl
  refine wp_region_quietTail (C := fun w => ∃ n', n ≤ n' ∧ Mem w0 H n' w) k hf (hks k hk) ⟨n, Nat.le_refl _, hw.drew _⟩ ?_
  refine wpQ.quiet w0 (h ops (ops.toList.take k) h1 a _ hag fun e' a' hk hag' w' ⟨n', hn, hw'⟩ => ?_)
  exact hk n' hn ops (ops.toList.drop k) h2 w0 w' a' Q' hm hw' hag' fun e2 H2 n2 a2 w2 hk2 hn2 hag2 hw2 => hQ .normal e2 H2 n2 a2 w2 hk2 (by omega) hag2 hw2

def Ex.then (K : Env → Hp → Nat → Prop) (Q : Ex → Env → Hp → Nat → Prop) : Ex → Env → Hp → Nat → Prop
  | .normal => K
  | x => Q x

theorem CS.seq {c d : Cd} {e : Env} {H : Hp} {n : Nat} {Q : Ex → Env → Hp → Nat → Prop} (h : CS P N m c e H n (Ex.then (fun e' H' n' => CS P N m d e' H' n' Q) Q)) : CS P N m (.seq c d) e H n Q := by
  intro code hc w0 w a Q' hm hw hag hQ
  have : ∃ x y, code = .seq x y ∧ tr P N x = some c ∧ tr P N y = some d := by
    cases code <;> simp only [tr, bind, Option.bind_eq_some_iff, Option.some.injEq, reduceCtorEq, Cd.seq.injEq] at hc
    case seq x y =>
      obtain ⟨c', hc', d', hd', rfl, rfl⟩ := hc
      exact ⟨x, y, rfl, hc', hd'⟩
    all_goals (exfalso; (repeat' (first | (obtain ⟨_, _, hc⟩ := hc) | (split at hc) | cases hc)))
  obtain ⟨x, y, rfl, hx, hy⟩ := this
  refine wp_seq (h x hx w0 w a _ hm hw hag fun x' e' H' n' a' w' hq hn hag' hw' => ?_)
  cases x' with
  | normal => exact hq y hy w0 w' a' Q' hm hw' hag' fun x2 e2 H2 n2 a2 w2 hq2 hn2 => hQ x2 e2 H2 n2 a2 w2 hq2 (by omega)
  | exit id => exact hQ _ _ _ _ _ _ hq hn hag' hw'
  | ret => exact hQ _ _ _ _ _ _ hq hn hag' hw'

theorem CS.cond {x : X} {c d : Cd} {e : Env} {H : Hp} {n : Nat} {Q : Ex → Env → Hp → Nat → Prop} {t : Bool} (hx : x.ev e = some (.s (.bool t)))
    (h1 : t = true → CS P N m c e H n Q) (h2 : t = false → CS P N m d e H n Q) : CS P N m (.cond x c d) e H n Q := by
  intro code hc w0 w a Q' hm hw hag hQ
  have : ∃ x0 y z, code = .cond x0 y z ∧ trX x0 = some x ∧ tr P N y = some c ∧ tr P N z = some d := by
    cases code <;> simp only [tr, bind, Option.bind_eq_some_iff, Option.some.injEq, reduceCtorEq, Cd.cond.injEq] at hc
    case cond x0 y z =>
      obtain ⟨x', hx', c', hc', d', hd', rfl, rfl, rfl⟩ := hc
      exact ⟨x0, y, z, rfl, hx', hc', hd'⟩
    all_goals (exfalso; (repeat' (first | (obtain ⟨_, _, hc⟩ := hc) | (split at hc) | cases hc)))
  obtain ⟨x0, y, z, rfl, hx0, hy, hz⟩ := this
  have e1 := trX_eval hag hx0 hx
  exact wp_cond_split e1 (fun ht => h1 ht y hy w0 w a Q' hm hw hag hQ) (fun ht => h2 ht z hz w0 w a Q' hm hw hag hQ)

def Ex.inBlock (id : Nat) (Q : Ex → Env → Hp → Nat → Prop) : Ex → Env → Hp → Nat → Prop
  | .exit i => if i = id then Q .normal else Q (.exit i)
  | x => Q x

theorem CS.block {id : Nat} {c : Cd} {e : Env} {H : Hp} {n : Nat} {Q : Ex → Env → Hp → Nat → Prop} (h : CS P N m c e H n (Ex.inBlock id Q)) : CS P N m (.block id c) e H n Q := by
  intro code hc w0 w a Q' hm hw hag hQ
  have : ∃ y, code = .block id y ∧ tr P N y = some c := by
    cases code <;> simp only [tr, bind, Option.bind_eq_some_iff, Option.some.injEq, reduceCtorEq, Cd.block.injEq] at hc
    case block i y =>
      obtain ⟨c', hc', rfl, rfl⟩ := hc
      exact ⟨y, rfl, hc'⟩
    all_goals (exfalso; (repeat' (first | (obtain ⟨_, _, hc⟩ := hc) | (split at hc) | cases hc)))
  obtain ⟨y, rfl, hy⟩ := this
  refine wp_block (h y hy w0 w a _ hm hw hag fun x' e' H' n' a' w' hq hn hag' hw' => ?_)
  cases x' with
  | normal => exact hQ _ _ _ _ _ _ hq hn hag' hw'
  | exit i =>
    simp only [Ex.inBlock] at hq
    simp only [Ex.real, Exit.inBlock]
    split
    · rename_i hi; rw [if_pos hi] at hq; exact hQ .normal _ _ _ _ _ hq hn hag' hw'
    · rename_i hi; rw [if_neg hi] at hq; exact hQ (.exit i) _ _ _ _ _ hq hn hag' hw'
  | ret => exact hQ _ _ _ _ _ _ hq hn hag' hw'

/-- A loop: I k is what holds before a round with at most k to come. -/
theorem CS.loop {c : Cd} {e : Env} {H : Hp} {n : Nat} {Q : Ex → Env → Hp → Nat → Prop} (J : Nat → Env → Hp → Nat → Prop) (k : Nat) (h0 : J k e H n)
    (h : ∀ k e H n', n ≤ n' → J k e H n' → CS P N m c e H n' (Ex.then (fun e' H' n'' => ∃ k' e1 H1, k' < k ∧ EnvLe e1 e' ∧ Drops m H' H1 ∧ J k' e1 H1 n'') Q)) : CS P N m (.loop c) e H n Q := by
  intro code hc w0 w a Q' hm hw hag hQ
  have : ∃ y, code = .loop y ∧ tr P N y = some c := by
    cases code <;> simp only [tr, bind, Option.bind_eq_some_iff, Option.some.injEq, reduceCtorEq, Cd.loop.injEq] at hc
    case loop y =>
      obtain ⟨c', hc', rfl⟩ := hc
      exact ⟨y, rfl, hc'⟩
    all_goals (exfalso; (repeat' (first | (obtain ⟨_, _, hc⟩ := hc) | (split at hc) | cases hc)))
  obtain ⟨y, rfl, hy⟩ := this
  intro b kk cs
  have key : ∀ k e H n' a w, n ≤ n' → J k e H n' → Mem w0 H n' w → Ag N e a →
      ∃ ex a' w', Q' ex a' w' ∧ Arrives P (lone (b.at a (.code y :: .inLoop y :: kk)) cs w) b kk cs ex a' w' := by
    intro k
    induction k using Nat.strongRecOn with
    | _ k ih =>
      intro e H n' a w hn hJ hw hag
      obtain ⟨ex, a1, w1, hq, harr⟩ := h k e H n' hn hJ y hy w0 w a
        (Exit.then (fun a1 w1 => ∃ k' e1 H1 n1, k' < k ∧ n ≤ n1 ∧ J k' e1 H1 n1 ∧ Mem w0 H1 n1 w1 ∧ Ag N e1 a1) Q') hm hw hag
        (fun x' e' H' n'' a' w' hx hn' hag' hw' => by
          cases x' with
          | normal =>
            obtain ⟨k', e1, H1, hk, hle, hd, hJ'⟩ := hx
            exact ⟨k', e1, H1, n'', hk, by omega, hJ', hw'.drops hm hd, hag'.le hle⟩
          | exit id => exact hQ (.exit id) e' H' n'' a' w' hx (by omega) hag' hw'
          | ret => exact hQ .ret e' H' n'' a' w' hx (by omega) hag' hw') b (.inLoop y :: kk) cs
      cases ex with
      | normal =>
        obtain ⟨k', e1, H1, n1, hk, hn1, hJ1, hw1, hag1⟩ := hq
        obtain ⟨ex2, a2, w2, hq2, harr2⟩ := ih k' hk e1 H1 n1 a1 w1 hn1 hJ1 hw1 hag1
        exact ⟨ex2, a2, w2, hq2, .of_steps (Steps.trans harr (.one step_inLoop)) harr2⟩
      | exit id => exact ⟨_, a1, w1, hq, .pass (x := .inLoop y) rfl (fun _ _ => .inl (by simp)) harr⟩
      | goto l => exact ⟨_, a1, w1, hq, .pass (x := .inLoop y) rfl (fun _ _ => .inl (by simp)) harr⟩
      | ret => exact ⟨_, a1, w1, hq, .pass (x := .inLoop y) rfl (fun _ _ => .inl (by simp)) harr⟩
      | panic ch => exact ⟨_, a1, w1, hq, .pass (x := .inLoop y) rfl (fun _ _ => .inl (by simp)) harr⟩
      | outgrown => exact ⟨_, a1, w1, hq, .pass (x := .inLoop y) rfl (fun _ _ => .inl (by simp)) harr⟩
  obtain ⟨ex, a', w', hq, harr⟩ := key k e H n a w (Nat.le_refl _) h0 hw hag
  exact ⟨ex, a', w', hq, .of_steps (.one step_loop) harr⟩

theorem conc_arr {n : Nat} {c d : Nat → SV} (h : ∀ i, i < n → c i = d i) : (AV.arr n c).conc = (AV.arr n d).conc := by
  simp only [AV.conc, arrC_congr h]
theorem conc_tup2 {a b a' b' : AV} (h1 : a.conc = a'.conc) (h2 : b.conc = b'.conc) : (AV.tup [a, b]).conc = (AV.tup [a', b']).conc := by
  simp only [AV.conc, AV.concs, h1, h2]
theorem FnS.args {f : FuncId} {args args' : List AV} {H : Hp} {n : Nat} {R : AV → Hp → Nat → Prop} (h : AV.concs args = AV.concs args') (hf : FnS P f args' H n R) : FnS P f args H n R := by
  unfold FnS at *; rw [h]; exact hf
theorem concs_cons {a b : AV} {l r : List AV} (h : a.conc = b.conc) (h2 : AV.concs l = AV.concs r) : AV.concs (a :: l) = AV.concs (b :: r) := by
  simp only [AV.concs, h, h2]

/-! ### Functions -/

inductive R1 where
  | tmp (t : Nat)
  | cell (m : Option Nat) (a : Nat)
  deriving Inhabited

def trR (P : Program) : ResultVar → Option R1
  | .tmp t => some (.tmp t)
  | .cell a t => do some (.cell (← shOf P t) a)

def resK (e : Env) (H : Hp) : List R1 → (List AV → Prop) → Prop
  | [], K => K []
  | .tmp t :: l, K => match e.get t with
    | some v => resK e H l fun r => K (v :: r)
    | none => False
  | .cell m a :: l, K => match e.get a with
    | some (.s (.ptr b off)) => match H.get b with
      | some k => ldV m k off fun v => resK e H l fun r => K (v :: r)
      | none => False
    | _ => False

def resV : List AV → AV
  | [v] => v
  | l => .tup l

def resOne (tmps : Array Value) : ResultVar → Sem Value
  | .tmp t => pure (tmps.getD t undef)
  | .cell c t => do loadVar t (← asAddr (tmps.getD c undef))

theorem results_eq (fn : Func) (tmps : Array Value) :
    results fn tmps = (do
      let vs ← fn.results.mapM (resOne tmps)
      pure (if h : vs.size = 1 then vs[0] else .tuple vs)) := by
  unfold results
  congr 1

theorem run_res {e : Env} {H : Hp} {a : Act} {w0 w : World} {n : Nat} (hag : Ag N e a) (hw : Mem w0 H n w) : ∀ (l : List ResultVar) (l' : List R1) (K : List AV → Prop),
    l.mapM (trR P) = some l' → resK e H l' K → ∃ r, K r ∧ r.length = l.length ∧ (l.mapM (resOne a.tmps)).run P w = .ok (AV.concs r) w
  | [], l', K, hl, h => by
    simp at hl; subst hl
    exact ⟨[], h, rfl, rfl⟩
  | x :: l, l', K, hl, h => by
    simp only [List.mapM_cons, bind, Option.bind_eq_some_iff, pure, Option.some.injEq] at hl
    obtain ⟨y, hy, r', hr', rfl⟩ := hl
    cases x with
    | tmp t =>
      simp only [trR, Option.some.injEq] at hy
      subst hy
      simp only [resK] at h
      split at h
      · rename_i v hv
        obtain ⟨r, hK, hlen, hrun⟩ := run_res hag hw l r' _ hr' h
        refine ⟨_, hK, by simp [hlen], ?_⟩
        have := hag.get t v hv
        have h1 : (resOne a.tmps (.tmp t)).run P w = .ok v.conc w := by simp [resOne, this]
        simp only [List.mapM_cons, Sem.run_bind, Sem.run_pure, Result.andThen_ok, h1, hrun]
        rfl
      · exact h.elim
    | cell c t =>
      simp only [trR, bind, Option.bind_eq_some_iff, Option.some.injEq] at hy
      obtain ⟨mm, hmm, rfl⟩ := hy
      simp only [resK] at h
      split at h
      · rename_i b off hv
        split at h
        · rename_i k hk
          have ha := hag.get c _ hv
          have ha' : a.tmps.getD c undef = .pointer (some ⟨b, off, none⟩) := by simp [ha, AV.conc, SV.conc]
          cases mm with
          | none =>
            simp only [ldV] at h
            obtain ⟨ho, h⟩ := h
            obtain ⟨r, hK, hlen, hrun⟩ := run_res hag hw l r' _ hr' h
            refine ⟨_, hK, by simp [hlen], ?_⟩
            have hl := run_loadVar (P := P) hmm hw hk (off := off) (by simp only [Option.getD_none]; omega)
            have h1 : (resOne a.tmps (.cell c t)).run P w = .ok (AV.s (k.c off)).conc w := by
              simp only [resOne, ha', asAddr, Sem.run_bind, Sem.run_pure, Result.andThen_ok]
              exact hl
            simp only [List.mapM_cons, Sem.run_bind, Sem.run_pure, Result.andThen_ok, h1, hrun]
            rfl
          | some z =>
            simp only [ldV] at h
            obtain ⟨ho, h⟩ := h
            obtain ⟨r, hK, hlen, hrun⟩ := run_res hag hw l r' _ hr' h
            refine ⟨_, hK, by simp [hlen], ?_⟩
            have hl := run_loadVar (P := P) hmm hw hk (off := off) (by simpa using ho)
            have h1 : (resOne a.tmps (.cell c t)).run P w = .ok (AV.arr z fun j => k.c (off + j)).conc w := by
              simp only [resOne, ha', asAddr, Sem.run_bind, Sem.run_pure, Result.andThen_ok]
              exact hl
            simp only [List.mapM_cons, Sem.run_bind, Sem.run_pure, Result.andThen_ok, h1, hrun]
            rfl
        · exact h.elim
      · exact h.elim

def trFn (P : Program) (fn : Func) : Option (Nat × Cd × List R1) := do
  let code ← fn.body
  if fn.name == "runtime.NumGoroutine" then none else do
  let c ← tr P fn.ntmps code
  let rs ← fn.results.toList.mapM (trR P)
  some (fn.ntmps, c, rs)

def argEnv : Nat → List AV → Env
  | _, [] => []
  | k, v :: l => (k, v) :: argEnv (k + 1) l

theorem argEnv_get : ∀ (l : List AV) (k t : Nat) (v : AV), (argEnv k l).get t = some v → k ≤ t ∧ l[t - k]? = some v
  | [], k, t, v, h => by cases h
  | x :: l, k, t, v, h => by
    simp only [argEnv, Env.get_cons] at h
    split at h
    · rename_i hk; subst hk; cases h; simp
    · rename_i hk
      have := argEnv_get l (k + 1) t v h
      refine ⟨by omega, ?_⟩
      obtain ⟨j, hj⟩ : ∃ j, t - k = j + 1 := ⟨t - k - 1, by omega⟩
      rw [hj, List.getElem?_cons_succ, ← this.2]
      congr 1; omega

/-- What is to hold behind a function's text. -/
def Fin (rs : List R1) (n : Nat) (R : AV → Hp → Nat → Prop) : Ex → Env → Hp → Nat → Prop := fun x e' H' n' => (match x with | .exit _ => False | _ => True) ∧
      resK e' H' rs fun r => ∃ v H2, (resV r).conc = v.conc ∧ Drops n H' H2 ∧ R v H2 n'
theorem Fin.ret {rs : List R1} {n n' : Nat} {R : AV → Hp → Nat → Prop} {e : Env} {H : Hp} (h : resK e H rs fun r => ∃ v H2, (resV r).conc = v.conc ∧ Drops n H H2 ∧ R v H2 n') : Fin rs n R .ret e H n' := ⟨trivial, h⟩
theorem Fin.nor {rs : List R1} {n n' : Nat} {R : AV → Hp → Nat → Prop} {e : Env} {H : Hp} (h : resK e H rs fun r => ∃ v H2, (resV r).conc = v.conc ∧ Drops n H H2 ∧ R v H2 n') : Fin rs n R .normal e H n' := ⟨trivial, h⟩

/-- A function whose text, from its arguments on, comes to R. -/
theorem FnS.of_body {f : FuncId} {fn : Func} {c : Cd} {rs : List R1} {args : List AV} {H : Hp} {n : Nat} {R : AV → Hp → Nat → Prop}
    (hf : P.funcs[f]? = some fn) (ht : trFn P fn = some (N, c, rs)) (hN : args.length ≤ N)
    (h : (∀ b, n ≤ b → H.get b = none) → CS P N n c (argEnv 0 args) H n (Fin rs n R)) : FnS P f args H n R := by
  simp only [trFn, bind, Option.bind_eq_some_iff] at ht
  obtain ⟨code, hcode, ht⟩ := ht
  split at ht
  · cases ht
  · rename_i hname
    simp only [Option.bind_eq_some_iff, Option.some.injEq, Prod.mk.injEq] at ht
    obtain ⟨c', hc, rs', hrs, rfl, rfl, rfl⟩ := ht
    refine ⟨⟨fn, hf, by simp [hcode], by simpa using hname⟩, fun w0 w hw => ?_⟩
    -- a base that is this very world
    refine calls_of_wp hf hcode ?_
    have hsz : (AV.concs args).toArray.size = args.length := by simp [AV.concs_eq]
    have hag : Ag fn.ntmps (argEnv 0 args) { tmps := (AV.concs args).toArray ++ Array.replicate (fn.ntmps - (AV.concs args).toArray.size) undef, defers := [] } := by
      refine ⟨by simp [hsz]; omega, rfl, fun t v htv => ?_⟩
      have h1 := argEnv_get _ _ _ _ htv
      have h2 : args[t]? = some v := by simpa using h1.2
      have hlt : t < args.length := by
        rcases Nat.lt_or_ge t args.length with h | h
        · exact h
        · rw [List.getElem?_eq_none h] at h2; cases h2
      rw [Array.getElem?_append_left (by rw [hsz]; exact hlt)]
      simp [AV.concs_eq, h2]
    refine h (fun b hb => hw.fresh hb) code hc w0 w _ _ hw.base hw hag ?_
    rintro x e' H' n' a' w' ⟨hx, hres⟩ hn hag' hw'
    obtain ⟨r, ⟨v, H2, hv, hd, hR⟩, hlen, hrun⟩ := run_res (P := P) hag' hw' _ _ _ hrs hres
    have hb : (results fn a'.tmps).run P w' = .ok (resV r).conc w' := by
      rw [results_eq, Array.mapM_eq_mapM_toList]
      simp only [Sem.run_bind, Sem.run_map, hrun, Result.andThen_ok, Sem.run_pure]
      congr 1
      cases r with
      | nil => rfl
      | cons v r =>
        cases r with
        | nil => simp [AV.concs, resV]
        | cons v2 r => simp [AV.concs, resV, AV.conc]
    have hfin : ∃ v, (results fn a'.tmps).run P w' = .ok v w' ∧ (∃ v1 H3 n3, Ending.returned v = .returned v1.conc ∧ n ≤ n3 ∧ Mem w0 H3 n3 w' ∧ R v1 H3 n3) :=
      ⟨_, hb, v, H2, n', by rw [hv], hn, hw'.drops hw.base hd, hR⟩
    cases x with
    | normal => exact ⟨hag'.defers, hfin⟩
    | exit id => exact hx.elim
    | ret => exact ⟨hag'.defers, hfin⟩

end
end Go.V
