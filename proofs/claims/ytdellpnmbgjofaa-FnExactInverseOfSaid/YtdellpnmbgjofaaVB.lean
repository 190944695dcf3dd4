/- Instructions in a short form, what the pure ones yield, and that they yield it. -/
import Derived.Test.YtdellpnmbgjofaaVA
import Derived.Deep.Quiet
import Derived.IntWalk
import Derived.ChangeKeysEq
namespace Go.V

inductive X where
  | t (t : Nat)
  | c (v : SV)
  deriving Inhabited

abbrev Env := List (Nat × AV)

def Env.get : Env → Nat → Option AV
  | [], _ => none
  | (t, v) :: e, t' => match Nat.beq t t' with | true => some v | false => Env.get e t'
def Env.del : Env → Nat → Env
  | [], _ => []
  | (t, v) :: e, t' => match Nat.beq t t' with | true => Env.del e t' | false => (t, v) :: Env.del e t'
def Env.put (e : Env) (d : Nat) (v : AV) : Env := (d, v) :: e

theorem Env.get_cons (e : Env) (t t' : Nat) (v : AV) : Env.get ((t, v) :: e) t' = if t = t' then some v else Env.get e t' := by
  simp only [Env.get]
  cases h : Nat.beq t t' with
  | true => rw [if_pos (Nat.eq_of_beq_eq_true h)]
  | false => rw [if_neg (Nat.ne_of_beq_eq_false h)]
theorem Env.get_del_ne {e : Env} {t t' : Nat} (h : t ≠ t') : (Env.del e t).get t' = e.get t' := by
  induction e with
  | nil => rfl
  | cons x e ih =>
    obtain ⟨u, v⟩ := x
    simp only [Env.del]
    cases hb : Nat.beq u t with
    | true =>
      have := Nat.eq_of_beq_eq_true hb
      subst this
      rw [Env.get_cons, if_neg h]; exact ih
    | false => simp only [Env.get_cons, ih]

def X.ev (e : Env) : X → Option AV
  | .t i => e.get i
  | .c v => some (.s v)

/-- The frame's slots hold what e says. -/
structure Ag (N : Nat) (e : Env) (a : Act) : Prop where
  size : a.tmps.size = N
  defers : a.defers = []
  get : ∀ t v, e.get t = some v → a.tmps[t]? = some v.conc

theorem Ag.put {N : Nat} {e : Env} {a : Act} (h : Ag N e a) {d : Nat} (hd : d < N) (v : AV) : Ag N (e.put d v) (a.put (some d) v.conc) := by
  refine ⟨by simp [Act.put, h.size], h.defers, fun t u hu => ?_⟩
  simp only [Env.put, Env.get_cons] at hu
  simp only [Act.put]
  by_cases e1 : d = t
  · subst e1
    rw [if_pos rfl] at hu
    cases hu
    rw [Array.getElem?_setIfInBounds]
    simp [h.size, hd]
  · rw [if_neg e1] at hu
    rw [Array.getElem?_setIfInBounds_ne e1]
    exact h.get t u hu

/-- Cells by runs. -/
abbrev Zs := List (Nat × SV)
def Zs.c : Zs → Nat → SV
  | [] => fun _ => .nilfn
  | [(_, v)] => fun _ => v
  | (n, v) :: l => fun i => if i < n then v else Zs.c l (i - n)
def Zs.size : Zs → Nat
  | [] => 0
  | (n, _) :: l => n + Zs.size l

def svOf : Value → Option SV
  | .int k n => some (.int k n)
  | .bool b => some (.bool b)
  | .string s => some (.str s)
  | .pointer none => some .nil
  | .slice none 0 0 => some .nils
  | .nilFunc => some .nilfn
  | .nilIface => some .nilifc
  | _ => none

theorem svOf_spec {v : Value} {x : SV} (h : svOf v = some x) : v = x.conc := by
  unfold svOf at h
  split at h <;> first | (cases h; rfl) | cases h

def svEq : SV → SV → Bool
  | .int .i64 a, .int .i64 b => a == b
  | .int .u8 a, .int .u8 b => a == b
  | .int .u64 a, .int .u64 b => a == b
  | .int .i32 a, .int .i32 b => a == b
  | .bool a, .bool b => a == b
  | .str a, .str b => a.size == 0 && b.size == 0
  | .nil, .nil => true
  | .nils, .nils => true
  | .nilfn, .nilfn => true
  | .nilifc, .nilifc => true
  | _, _ => false

theorem svEq_spec {x y : SV} (h : svEq x y = true) : x = y := by
  unfold svEq at h
  split at h <;> simp_all

def rle : List SV → Zs
  | [] => []
  | x :: l => match rle l with
    | (n, y) :: r => if svEq x y then (n + 1, y) :: r else (1, x) :: (n, y) :: r
    | [] => [(1, x)]

theorem Zs.c_cons (n : Nat) (v : SV) (l : Zs) (i : Nat) (h : i < n + Zs.size l) : Zs.c ((n, v) :: l) i = if i < n then v else Zs.c l (i - n) := by
  cases l with
  | nil =>
    simp [Zs.size] at h
    simp [Zs.c, h]
  | cons x l => simp [Zs.c]

theorem rle_size (l : List SV) : Zs.size (rle l) = l.length := by
  induction l with
  | nil => rfl
  | cons x l ih =>
    simp only [rle]
    split
    · rename_i n y r h
      rw [h] at ih
      simp only [Zs.size] at ih
      split <;> simp only [Zs.size, List.length_cons] <;> omega
    · rename_i h
      rw [h] at ih
      simp only [Zs.size] at ih
      simp [Zs.size, ← ih]

theorem rle_get (l : List SV) : ∀ (i : Nat) (h : i < l.length), Zs.c (rle l) i = l[i] := by
  induction l with
  | nil => intro i h; simp at h
  | cons x l ih =>
    intro i h
    have hs := rle_size l
    simp only [rle]
    split
    · rename_i n y r hr
      rw [hr] at ih hs
      simp only [Zs.size] at hs
      simp only [List.length_cons] at h
      split
      · rename_i he
        have he := svEq_spec he
        subst he
        rw [Zs.c_cons _ _ _ _ (by omega)]
        cases i with
        | zero => simp
        | succ i =>
          have h1 := ih i (by omega)
          rw [Zs.c_cons _ _ _ _ (by omega)] at h1
          simp only [List.getElem_cons_succ, ← h1]
          by_cases e : i < n
          · rw [if_pos e, if_pos (by omega)]
          · rw [if_neg e, if_neg (by omega)]; congr 1; omega
      · rw [Zs.c_cons _ _ _ _ (by simp only [Zs.size]; omega)]
        cases i with
        | zero => simp
        | succ i =>
          rw [if_neg (by omega)]
          simp only [List.getElem_cons_succ, Nat.add_sub_cancel]
          exact ih i (by omega)
    · rename_i hr
      rw [hr] at hs
      simp only [Zs.size] at hs
      simp only [List.length_cons] at h
      have : i = 0 := by omega
      subst this
      simp [Zs.c]

/-- The zero value of a type, by runs. -/
def zOf (P : Program) (t : TypeId) : Option Zs := do
  let i ← P.info? t
  let z ← i.zero
  let l ← z.cells.toList.mapM svOf
  if l.length = i.size then some (rle l) else none

theorem mapM_svOf : ∀ (l : List Value) (r : List SV), l.mapM svOf = some r → l = r.map SV.conc
  | [], r, h => by simp at h; subst h; rfl
  | v :: l, r, h => by
    simp only [List.mapM_cons, bind, Option.bind_eq_some_iff] at h
    obtain ⟨x, hx, l', hl, h⟩ := h
    simp only [pure, Option.some.injEq] at h
    subst h
    simp [svOf_spec hx, mapM_svOf l l' hl]

theorem zOf_spec {P : Program} {t : TypeId} {z : Zs} (h : zOf P t = some z) :
    ∃ i v, P.info? t = some i ∧ i.zero = some v ∧ v.cells = arrC z.size z.c ∧ i.size = z.size := by
  simp only [zOf, bind, Option.bind_eq_some_iff] at h
  obtain ⟨i, hi, v, hv, l, hl, h⟩ := h
  split at h
  · rename_i hs
    cases h
    refine ⟨i, v, hi, hv, ?_, by rw [rle_size, hs]⟩
    have hm := mapM_svOf _ _ hl
    apply arrC_ext
    · rw [← Array.length_toList, hm, rle_size]; simp
    · intro j hj
      rw [rle_size] at hj
      rw [rle_get _ _ hj, ← Array.getElem?_toList, hm]
      simp [hj]
  · cases h

/-- Is a type an aggregate, and of how many cells? -/
def shOf (P : Program) (t : TypeId) : Option (Option Nat) := do
  let i ← P.info? t
  match ← P.underlying t with
  | .struct _ | .array _ _ => some (some i.size)
  | _ => some none

section
variable {P : Program}

theorem run_loadVar {w0 w : World} {H : Hp} {n b off : Nat} {k : Blk} {t : TypeId} {m : Option Nat} (hm : shOf P t = some m) (h : Mem w0 H n w) (hb : H.get b = some k)
    (ho : off + m.getD 1 ≤ k.size) :
    (loadVar t ⟨b, off, none⟩).run P w = .ok (match m with | some z => AV.arr z (fun j => k.c (off + j)) | none => .s (k.c off)).conc w := by
  simp only [shOf, bind, Option.bind_eq_some_iff] at hm
  obtain ⟨i, hi, d, hd, hm⟩ := hm
  have hu := run_underlying (P := P) hd w
  have hz : (sizeOf t).run P w = .ok i.size w := by simp [sizeOf, typeInfo, hi]
  unfold loadVar isAgg
  split at hm
  · cases hm
    simp only [Option.getD_some] at ho
    simp [hu, hz, run_loadCells h hb _ ho, AV.conc]
  · cases hm
    simp only [Option.getD_some] at ho
    simp [hu, hz, run_loadCells h hb _ ho, AV.conc]
  · rename_i h1 h2
    cases hm
    simp only [Option.getD_none] at ho
    have hl := run_load (P := P) h hb (off := off) (by omega)
    rw [Sem.run_bind, Sem.run_bind, hu]
    simp only [Result.andThen_ok]
    cases d <;> first | exact absurd rfl (h1 _) | exact absurd rfl (h2 _ _) | simpa [AV.conc] using hl

end
end Go.V
