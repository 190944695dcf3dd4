/- The instructions, their translation, and what the pure ones yield. -/
import Derived.Test.YtdellpnmbgjofaaVB
import Derived.Laws.StructEq
import Derived.Laws.Tables
namespace Go.V
set_option linter.unusedSimpArgs false
set_option linter.unusedVariables false

inductive I where
  | mov (x : X)
  | pick (c a b : X)
  | build (n : Nat) (z : Zs) (ps : List (Nat × Nat × X))
  | ld (m : Option Nat) (x : X)
  | ck (x : X)
  | bin (op : BinOp) (x y : X)
  | beq (neg : Bool) (x y : X)
  | snil (neg : Bool) (x : X)
  | inil (neg : Bool) (x : X)
  | eqa (neg : Bool) (n : Nat) (x y : X)
  | un (op : UnOp) (x : X)
  | cv (k : IntKind) (x : X)
  | fa (off : Nat) (x : X)
  | fl (off : Nat) (m : Option Nat) (x : X)
  | ia (len sz : Nat) (x i : X)
  | isl (sz : Nat) (x i : X)
  | ix (len sz : Nat) (m : Option Nat) (x i : X)
  | ss (x i : X)
  | ex (x : X) (k : Nat)
  | mkf (f : FuncId) (pre post : List X)
  | len (x : X)
  | lens (x : X)
  | lenc (n : Nat)
  | sla (len sz : Nat) (x : X) (lo hi mx : Option X)
  | sls (sz : Nat) (x : X) (lo hi mx : Option X)
  | slst (x : X) (lo hi : Option X)
  | s2a (n : Nat) (x : X)
  | new (ty : TypeId) (z : Zs)
  | box (ty : TypeId) (x : X)
  | bsl (ety : TypeId) (len sz : Nat) (z : Zs) (ps : List (Nat × Nat × X))
  | st (n : Nat) (a v : X)
  | app (ety : TypeId) (sz bytes : Nat) (z : Zs) (x y : X)
  | cpy (sz : Nat) (x y : X)
  | mks (ety : TypeId) (sz bytes : Nat) (z : Zs) (l c : X)
  | call (f : FuncId) (args : List X)
  | callv (x : X) (args : List X)
  deriving Inhabited

def trX : Operand → Option X
  | .tmp t => some (.t t)
  | .const v => (svOf v).map .c
  | .global g => some (.c (.ptr g 0))
  | .func f => some (.c (.fn f [] []))

theorem trX_eval {N : Nat} {e : Env} {a : Act} (h : Ag N e a) {x : Operand} {x' : X} {v : AV} (ht : trX x = some x') (hv : x'.ev e = some v) : a.eval x = v.conc := by
  cases x with
  | tmp t =>
    simp only [trX, Option.some.injEq] at ht
    subst ht
    have := h.get t v hv
    simp [Act.eval, this]
  | const c =>
    simp only [trX, Option.map_eq_some_iff] at ht
    obtain ⟨s, hs, rfl⟩ := ht
    simp only [X.ev, Option.some.injEq] at hv
    subst hv
    simp [Act.eval, svOf_spec hs, AV.conc]
  | global g =>
    simp only [trX, Option.some.injEq] at ht
    subst ht
    simp only [X.ev, Option.some.injEq] at hv
    subst hv
    rfl
  | func f =>
    simp only [trX, Option.some.injEq] at ht
    subst ht
    simp only [X.ev, Option.some.injEq] at hv
    subst hv
    rfl

/-- Operands of an optional bound. -/
def trO : Option Operand → Option (Option X)
  | none => some none
  | some x => (trX x).map some

/-- The number of cells of a type whose cells are all integers. -/
def intTy (P : Program) : Nat → TypeId → Option Nat
  | 0, _ => none
  | d + 1, t =>
    match P.underlying t, P.info? t with
    | some (.int _), some i => if i.size = 1 then some 1 else none
    | some (.array len e), some i => match intTy P d e, P.info? e with
      | some m, some j => if j.size = m ∧ i.size = len * m then some i.size else none
      | _, _ => none
    | _, _ => none

def sizeT (P : Program) (t : TypeId) : Option Nat := (P.info? t).map (·.size)

/-- The parts of a struct or an array that is built. -/
def trParts (place : Nat → Option (Nat × Nat)) (n : Nat) : List (Nat × Operand) → Option (List (Nat × Nat × X))
  | [] => some []
  | (i, x) :: l => do
    let (o, s) ← place i
    let x ← trX x
    let r ← trParts place n l
    if o + s ≤ n then some ((o, s, x) :: r) else none

def trI (P : Program) (ty : TypeId) : Op → Option I
  | .move x => do some (.mov (← trX x))
  | .assign x => do some (.mov (← trX x))
  | .pick c a b => do some (.pick (← trX c) (← trX a) (← trX b))
  | .build t ps => do
    let z ← zOf P t
    match ← P.underlying t with
    | .struct fs => do
      let places ← fs.toList.mapM (fun f => (P.info? f.type).map fun i => (f.offset, i.size))
      some (.build z.size z (← trParts (places.toArray[·]?) z.size ps.toList))
    | .array _ e => do
      let s ← sizeT P e
      some (.build z.size z (← trParts (fun i => some (i * s, s)) z.size ps.toList))
    | _ => none
  | .load t x => do some (.ld (← shOf P t) (← trX x))
  | .nilCheck x => do some (.ck (← trX x))
  | .binOp op t x y _ => do
    let x' ← trX x
    let y' ← trX y
    match ← P.underlying t with
    | .int _ | .string => some (.bin op x' y')
    | .bool => match op with
      | .eql => some (.beq false x' y')
      | .neq => some (.beq true x' y')
      | _ => none
    | .slice _ => match op, y' with
      | .eql, .c .nils => some (.snil false x')
      | .neq, .c .nils => some (.snil true x')
      | _, _ => none
    | .interface _ => match op, y with
      | .eql, .const .nilIface => some (.inil false x')
      | .neq, .const .nilIface => some (.inil true x')
      | _, _ => none
    | .array _ _ => do
      let n ← intTy P 5 t
      if P.eqGuardType P.depth t then none else
      match op with
      | .eql => some (.eqa false n x' y')
      | .neq => some (.eqa true n x' y')
      | _ => none
    | _ => none
  | .unOp op _ x => do some (.un op (← trX x))
  | .convert src dst x => do
    match ← P.underlying src, ← P.underlying dst with
    | .int _, .int k => some (.cv k (← trX x))
    | _, _ => none
  | .fieldAddr s x f => do
    let .struct fs ← P.underlying s | none
    let f ← fs[f]?
    let z ← sizeT P f.type
    if z = 0 then none else some (.fa f.offset (← trX x))
  | .field s x f => do
    let .struct fs ← P.underlying s | none
    let f ← fs[f]?
    some (.fl f.offset (← shOf P f.type) (← trX x))
  | .indexAddr t x i => do
    match ← P.underlying t with
    | .array len e => some (.ia len (← sizeT P e) (← trX x) (← trX i))
    | .slice e => some (.isl (← sizeT P e) (← trX x) (← trX i))
    | _ => none
  | .index t x i => do
    match ← P.underlying t with
    | .array len e => some (.ix len (← sizeT P e) (← shOf P e) (← trX x) (← trX i))
    | .string => some (.ss (← trX x) (← trX i))
    | _ => none
  | .extract x k => do some (.ex (← trX x) k)
  | .makeFunc (.func f) pre post => do some (.mkf f (← pre.toList.mapM trX) (← post.toList.mapM trX))
  | .slice t x lo hi mx => do
    match ← P.underlying t with
    | .array len e => some (.sla len (← sizeT P e) (← trX x) (← trO lo) (← trO hi) (← trO mx))
    | .slice e => some (.sls (← sizeT P e) (← trX x) (← trO lo) (← trO hi) (← trO mx))
    | .string => if mx.isSome then none else some (.slst (← trX x) (← trO lo) (← trO hi))
    | _ => none
  | .sliceToArrayPointer t x => do
    let .array n _ ← P.underlying t | none
    some (.s2a n (← trX x))
  | .alloc t => do some (.new t (← zOf P t))
  | .box t x => do some (.box t (← trX x))
  | .buildSlice t len ps => do
    let .slice e ← P.underlying t | none
    let z ← zOf P e
    let s ← sizeT P e
    if len * s > 2 ^ 24 ∨ s = 0 then none else
    some (.bsl e len s z (← trParts (fun i => some (i * s, s)) (len * s) ps.toList))
  | .store t a v => do some (.st (← sizeT P t) (← trX a) (← trX v))
  | .makeSlice t l c => do
    let .slice e ← P.underlying t | none
    let i ← P.info? e
    if i.size = 0 then none else
    some (.mks e i.size i.bytes (← zOf P e) (← trX l) (← trX c))
  | .call c => do
    let args ← c.args.toList.mapM trX
    match c.callee with
    | .value (.func f) => some (.call f args)
    | .value x => some (.callv (← trX x) args)
    | .builtin .len => do
      match ← P.underlying (← c.argTypes[0]?), args with
      | .string, [x] => some (.lens x)
      | .slice _, [x] => some (.len x)
      | .array n _, [_] => some (.lenc n)
      | _, _ => none
    | .builtin .append => do
      let t0 ← c.argTypes[0]?
      let t1 ← c.argTypes[1]?
      match ← P.underlying t0, ← P.underlying t1, args with
      | .slice e, .slice _, [x, y] => do
        let i ← P.info? e
        if i.size = 0 ∨ i.bytes = 0 then none else
        some (.app e i.size i.bytes (← zOf P e) x y)
      | _, _, _ => none
    | .builtin .copy => do
      match ← P.underlying (← c.argTypes[0]?), args with
      | .slice e, [x, y] => do some (.cpy (← sizeT P e) x y)
      | _, _ => none
    | _ => none
  | _ => none

/-! ### What the pure ones yield -/

def binI (op : BinOp) (k : IntKind) (a b : Int) (K : SV → Prop) : Prop :=
  match op with
  | .add => K (.int k (k.wrap (a + b)))
  | .sub => K (.int k (k.wrap (a - b)))
  | .mul => K (.int k (k.wrap (a * b)))
  | .quo => b ≠ 0 ∧ K (.int k (k.wrap (a.tdiv b)))
  | .rem => b ≠ 0 ∧ K (.int k (a.tmod b))
  | .and => K (.int k (k.wrap (BitVec.ofInt k.bits a &&& BitVec.ofInt k.bits b).toNat))
  | .or => K (.int k (k.wrap (BitVec.ofInt k.bits a ||| BitVec.ofInt k.bits b).toNat))
  | .xor => K (.int k (k.wrap (BitVec.ofInt k.bits a ^^^ BitVec.ofInt k.bits b).toNat))
  | .eql => K (.bool (a == b))
  | .neq => K (.bool (a != b))
  | .lss => K (.bool (decide (a < b)))
  | .leq => K (.bool (decide (a ≤ b)))
  | .gtr => K (.bool (decide (a > b)))
  | .geq => K (.bool (decide (a ≥ b)))
  | _ => False

def binS (op : BinOp) (x y : SV) (K : SV → Prop) : Prop :=
  match x, y with
  | .int k a, .int k' b =>
    match op with
    | .shl => 0 ≤ b ∧ K (.int k (k.wrap (a * 2 ^ (min b.toNat k.bits))))
    | .shr => 0 ≤ b ∧ K (.int k (a.fdiv (2 ^ (min b.toNat k.bits))))
    | op => k = k' ∧ binI op k a b K
  | .str a, .str b =>
    match op with
    | .add => a.size + b.size ≤ 9223372036854775807 ∧ K (.str (a ++ b))
    | .eql => K (.bool (a.toList == b.toList))
    | .neq => K (.bool (!(a.toList == b.toList)))
    | .lss => K (.bool (Op.bytesLess a.toList b.toList))
    | .leq => K (.bool (Op.bytesLess a.toList b.toList || (a.toList == b.toList)))
    | .gtr => K (.bool (!(Op.bytesLess a.toList b.toList || (a.toList == b.toList))))
    | .geq => K (.bool (!(Op.bytesLess a.toList b.toList)))
    | _ => False
  | _, _ => False

def ldV (m : Option Nat) (k : Blk) (off : Nat) (K : AV → Prop) : Prop :=
  match m with
  | none => off < k.size ∧ K (.s (k.c off))
  | some z => off + z ≤ k.size ∧ K (.arr z (fun j => k.c (off + j)))

def partV (m : Option Nat) (n : Nat) (c : Nat → SV) (off : Nat) (K : AV → Prop) : Prop :=
  match m with
  | none => off < n ∧ K (.s (c off))
  | some z => off + z ≤ n ∧ K (.arr z (fun j => c (off + j)))

def placeAll (e : Env) : List (Nat × Nat × X) → (Nat → SV) → Option (Nat → SV)
  | [], c => some c
  | (o, sz, x) :: l, c => match x.ev e with
    | some (.s v) => match sz with
      | 1 => placeAll e l (put1 c o v)
      | _ => none
    | some (.arr m d) => match Nat.beq m sz with
      | true => placeAll e l (splice c o m d)
      | false => none
    | _ => none

def svs (e : Env) : List X → Option (List SV)
  | [] => some []
  | x :: l => match x.ev e, svs e l with
    | some (.s v), some r => some (v :: r)
    | _, _ => none

/-- The equality of n cells that are integers. -/
def ceq (n : Nat) (c d : Nat → SV) : Bool := (List.range n).all fun i => match c i, d i with
  | .int _ a, .int _ b => a == b
  | _, _ => false
def cInt (n : Nat) (c d : Nat → SV) : Prop := ∀ i, i < n → ∃ k a b, c i = .int k a ∧ d i = .int k b

/-- A bound of a slice expression. -/
def bndV (e : Env) (x : Option X) (dflt most : Nat) (K : Nat → Prop) : Prop :=
  match x with
  | none => K dflt
  | some x => match x.ev e with
    | some (.s (.int _ i)) => (0 ≤ i ∧ i ≤ most) ∧ K i.toNat
    | _ => False

def PV (i : I) (e : Env) (H : Hp) (K : AV → Prop) : Prop :=
  match i with
  | .mov x => match x.ev e with
    | some v => K v
    | none => False
  | .pick c a b => match c.ev e with
    | some (.s (.bool t)) => match (if t then a.ev e else b.ev e) with
      | some v => K v
      | none => False
    | _ => False
  | .build n z ps => match placeAll e ps z.c with
    | some c => K (.arr n c)
    | none => False
  | .ld m x => match x.ev e with
    | some (.s (.ptr b off)) => match H.get b with
      | some k => ldV m k off K
      | none => False
    | _ => False
  | .ck x => match x.ev e with
    | some (.s (.ptr b off)) => K (.s (.ptr b off))
    | _ => False
  | .bin op x y => match x.ev e, y.ev e with
    | some (.s u), some (.s v) => binS op u v fun r => K (.s r)
    | _, _ => False
  | .beq neg x y => match x.ev e, y.ev e with
    | some (.s (.bool u)), some (.s (.bool v)) => K (.s (.bool (if neg then !(u == v) else (u == v))))
    | _, _ => False
  | .snil neg x => match x.ev e with
    | some (.s .nils) => K (.s (.bool (!neg)))
    | some (.s (.slc _ _ _ _)) => K (.s (.bool neg))
    | _ => False
  | .inil neg x => match x.ev e with
    | some (.s .nilifc) => K (.s (.bool (!neg)))
    | some (.s (.ifc _ _)) => K (.s (.bool neg))
    | _ => False
  | .eqa neg n x y => match x.ev e, y.ev e with
    | some (.arr n1 c), some (.arr n2 d) => (n1 = n ∧ n2 = n) ∧ cInt n c d ∧ K (.s (.bool (if neg then !(ceq n c d) else ceq n c d)))
    | _, _ => False
  | .un op x => match op, x.ev e with
    | .not, some (.s (.bool b)) => K (.s (.bool (!b)))
    | .neg, some (.s (.int k a)) => K (.s (.int k (k.wrap (0 - a))))
    | _, _ => False
  | .cv k x => match x.ev e with
    | some (.s (.int _ a)) => K (.s (.int k (k.wrap a)))
    | _ => False
  | .fa off x => match x.ev e with
    | some (.s (.ptr b o)) => K (.s (.ptr b (o + off)))
    | _ => False
  | .fl off m x => match x.ev e with
    | some (.arr n c) => partV m n c off K
    | _ => False
  | .ia len sz x i => match x.ev e, i.ev e with
    | some (.s (.ptr b o)), some (.s (.int _ j)) => (0 ≤ j ∧ j < (len : Int)) ∧ K (.s (.ptr b (o + j.toNat * sz)))
    | _, _ => False
  | .isl sz x i => match x.ev e, i.ev e with
    | some (.s (.slc b o l _)), some (.s (.int _ j)) => (0 ≤ j ∧ j < (l : Int)) ∧ K (.s (.ptr b (o + j.toNat * sz)))
    | _, _ => False
  | .ix len sz m x i => match x.ev e, i.ev e with
    | some (.arr n c), some (.s (.int _ j)) => (0 ≤ j ∧ j < (len : Int)) ∧ partV m n c (j.toNat * sz) K
    | _, _ => False
  | .ss x i => match x.ev e, i.ev e with
    | some (.s (.str s)), some (.s (.int _ j)) => 0 ≤ j ∧ ∃ h : j.toNat < s.size, K (.s (.int .u8 (s[j.toNat]).toNat))
    | _, _ => False
  | .ex x k => match x.ev e with
    | some (.tup l) => match l[k]? with
      | some v => K v
      | none => False
    | _ => False
  | .mkf f pre post => match svs e pre, svs e post with
    | some a, some b => K (.s (.fn f a b))
    | _, _ => False
  | .len x => match x.ev e with
    | some (.s (.slc _ _ l _)) => K (.s (.int .i64 l))
    | some (.s .nils) => K (.s (.int .i64 0))
    | _ => False
  | .lens x => match x.ev e with
    | some (.s (.str s)) => K (.s (.int .i64 s.size))
    | _ => False
  | .lenc n => K (.s (.int .i64 n))
  | .sla len sz x lo hi mx => match x.ev e with
    | some (.s (.ptr b o)) => bndV e mx len len fun m => bndV e hi len m fun h => (mx.isSome → hi.isSome) ∧ bndV e lo 0 h fun l =>
        K (.s (.slc b (if m = l then o else o + l * sz) (h - l) (m - l)))
    | _ => False
  | .sls sz x lo hi mx => match x.ev e with
    | some (.s (.slc b o len cap)) => bndV e mx cap cap fun m => bndV e hi len m fun h => (mx.isSome → hi.isSome) ∧ bndV e lo 0 h fun l =>
        K (.s (.slc b (if m = l then o else o + l * sz) (h - l) (m - l)))
    | some (.s .nils) => bndV e mx 0 0 fun m => bndV e hi 0 m fun h => (mx.isSome → hi.isSome) ∧ bndV e lo 0 h fun l => K (.s .nils)
    | _ => False
  | .slst x lo hi => match x.ev e with
    | some (.s (.str s)) => bndV e hi s.size s.size fun h => bndV e lo 0 h fun l => K (.s (.str (s.extract l h)))
    | _ => False
  | .s2a n x => match x.ev e with
    | some (.s (.slc b o l _)) => n ≤ l ∧ K (.s (.ptr b o))
    | _ => False
  | _ => False

end Go.V
