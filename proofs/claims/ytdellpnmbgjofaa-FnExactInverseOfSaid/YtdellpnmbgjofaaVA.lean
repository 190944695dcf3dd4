/- Values, blocks and memory for walks over arrays: a block's content is a function of the place. -/
import Derived.Calls
import Derived.Below
import Derived.Laws.Cells
import Derived.Laws.Rows
namespace Go.V

/-- The truth of a proposition. -/
noncomputable def tb (Q : Prop) : Bool := @decide Q (Classical.propDecidable Q)
theorem tb_eq {Q : Prop} : tb Q = true ↔ Q := by unfold tb; exact @decide_eq_true_iff Q (Classical.propDecidable Q)
theorem tb_true {Q : Prop} (h : Q) : tb Q = true := tb_eq.2 h
theorem tb_false {Q : Prop} (h : ¬ Q) : tb Q = false := by
  cases e : tb Q with
  | false => rfl
  | true => exact absurd (tb_eq.1 e) h
theorem tb_eqF {Q : Prop} : tb Q = false ↔ ¬ Q := by
  constructor
  · intro h k; rw [tb_true k] at h; cases h
  · exact tb_false
theorem tb_iff {Q R : Prop} (h : Q ↔ R) : tb Q = tb R := by rw [show Q = R from propext h]
theorem tb_dec {Q : Prop} [Decidable Q] : tb Q = decide Q := by
  by_cases h : Q
  · rw [tb_true h, decide_eq_true h]
  · rw [tb_false h, decide_eq_false h]
theorem tb_not {Q : Prop} : (!tb Q) = tb (¬ Q) := by
  by_cases h : Q
  · rw [tb_true h, tb_false (fun k => k h)]; rfl
  · rw [tb_false h, tb_true h]; rfl


/-- A value of one cell. -/
inductive SV where
  | int (k : IntKind) (n : Int)
  | bool (b : Bool)
  | ptr (b off : Nat)
  | nil
  | slc (b off len cap : Nat)
  | nils
  | str (s : ByteArray)
  | fn (f : FuncId) (pre post : List SV)
  | nilfn
  | ifc (t : TypeId) (v : SV)
  | nilifc
  deriving Inhabited

mutual
def SV.conc : SV → Value
  | .int k n => .int k n
  | .bool b => .bool b
  | .ptr b off => .pointer (some ⟨b, off, none⟩)
  | .nil => .pointer none
  | .slc b off len cap => .slice (some ⟨b, off, none⟩) len cap
  | .nils => .slice none 0 0
  | .str s => .string s
  | .fn f pre post => .func (.func f) (SV.concs pre).toArray (SV.concs post).toArray
  | .nilfn => .nilFunc
  | .ifc t v => .iface t v.conc
  | .nilifc => .nilIface
def SV.concs : List SV → List Value
  | [] => []
  | x :: l => x.conc :: SV.concs l
end

theorem SV.concs_eq (l : List SV) : SV.concs l = l.map SV.conc := by
  induction l with
  | nil => rfl
  | cons x l ih => simp [SV.concs, ih]

theorem SV.cells (x : SV) : x.conc.cells = #[x.conc] := by
  cases x <;> rfl

/-- A value: of one cell, an aggregate of n cells, or several results. -/
inductive AV where
  | s (x : SV)
  | arr (n : Nat) (c : Nat → SV)
  | tup (l : List AV)

def arrC (n : Nat) (c : Nat → SV) : Array Value := Array.ofFn (n := n) fun i => (c i).conc

mutual
def AV.conc : AV → Value
  | .s x => x.conc
  | .arr n c => .agg (arrC n c)
  | .tup l => .tuple (AV.concs l).toArray
def AV.concs : List AV → List Value
  | [] => []
  | x :: l => x.conc :: AV.concs l
end

theorem AV.concs_eq (l : List AV) : AV.concs l = l.map AV.conc := by
  induction l with
  | nil => rfl
  | cons x l ih => simp [AV.concs, ih]

abbrev AV.undef : AV := .tup []
theorem AV.undef_conc : AV.undef.conc = Go.undef := rfl

@[simp] theorem arrC_size (n : Nat) (c : Nat → SV) : (arrC n c).size = n := by simp [arrC]
theorem arrC_get (n : Nat) (c : Nat → SV) (i : Nat) (h : i < n) : (arrC n c)[i]? = some (c i).conc := by
  simp [arrC, h]
theorem arrC_get_ge (n : Nat) (c : Nat → SV) (i : Nat) (h : n ≤ i) : (arrC n c)[i]? = none := by
  simp [arrC, h]
theorem arrC_ext {n : Nat} {c : Nat → SV} {a : Array Value} (hs : a.size = n) (h : ∀ i, i < n → a[i]? = some (c i).conc) : a = arrC n c := by
  apply Array.ext_getElem?
  intro i
  by_cases hi : i < n
  · rw [h i hi, arrC_get _ _ _ hi]
  · rw [arrC_get_ge _ _ _ (by omega), Array.getElem?_eq_none (by omega)]
theorem arrC_congr {n : Nat} {c d : Nat → SV} (h : ∀ i, i < n → c i = d i) : arrC n c = arrC n d :=
  (arrC_ext (by simp) (fun i hi => by rw [arrC_get _ _ _ hi, h i hi]))
theorem arrC_extract (n : Nat) (c : Nat → SV) (o m : Nat) (h : o + m ≤ n) : (arrC n c).extract o (o + m) = arrC m (fun i => c (o + i)) := by
  apply arrC_ext
  · simp; omega
  · intro i hi
    rw [Array.getElem?_extract]
    simp only [arrC_size]
    rw [if_pos (by omega), arrC_get _ _ _ (by omega)]

/-- A block of memory. -/
structure Blk where
  size : Nat
  c : Nat → SV
  ty : TypeId

def Blk.obj (k : Blk) : Obj := .cells (arrC k.size k.c) k.ty (0, 0)

abbrev Hp := List (Nat × Blk)

def Hp.get : Hp → Nat → Option Blk
  | [], _ => none
  | (b, k) :: H, b' => if b = b' then some k else Hp.get H b'

def Hp.set : Hp → Nat → (Nat → SV) → Hp
  | [], _, _ => []
  | (b, k) :: H, b', c => if b = b' then (b, ⟨k.size, c, k.ty⟩) :: H else (b, k) :: Hp.set H b' c

theorem Hp.get_eq (H : Hp) (b : Nat) (k : Blk) : Hp.get ((b, k) :: H) b = some k := by simp [Hp.get]
theorem Hp.get_ne (H : Hp) {b b' : Nat} (k : Blk) (h : b ≠ b') : Hp.get ((b, k) :: H) b' = Hp.get H b' := by simp [Hp.get, h]
theorem Hp.set_eq (H : Hp) (b : Nat) (k : Blk) (c : Nat → SV) : Hp.set ((b, k) :: H) b c = (b, ⟨k.size, c, k.ty⟩) :: H := by simp [Hp.set]
theorem Hp.set_ne (H : Hp) {b b' : Nat} (k : Blk) (c : Nat → SV) (h : b ≠ b') : Hp.set ((b, k) :: H) b' c = (b, k) :: Hp.set H b' c := by simp [Hp.set, h]

theorem Hp.get_set_self {H : Hp} {b : Nat} {k : Blk} (c : Nat → SV) (h : H.get b = some k) : (H.set b c).get b = some ⟨k.size, c, k.ty⟩ := by
  induction H with
  | nil => simp [Hp.get] at h
  | cons x H ih =>
    obtain ⟨b', k'⟩ := x
    by_cases e : b' = b
    · subst e; simp [Hp.get] at h; subst h; simp [Hp.set, Hp.get]
    · simp [Hp.get, e] at h; simp [Hp.set, Hp.get, e, ih h]
theorem Hp.get_set_other {H : Hp} {b b' : Nat} (c : Nat → SV) (h : b ≠ b') : (H.set b c).get b' = H.get b' := by
  induction H with
  | nil => rfl
  | cons x H ih =>
    obtain ⟨b1, k1⟩ := x
    by_cases e : b1 = b
    · subst e; simp [Hp.set, Hp.get, h]
    · simp [Hp.set, Hp.get, e, ih]
theorem Hp.set_set {H : Hp} {b : Nat} (c d : Nat → SV) : (H.set b c).set b d = H.set b d := by
  induction H with
  | nil => rfl
  | cons x H ih =>
    obtain ⟨b1, k1⟩ := x
    by_cases e : b1 = b
    · subst e; simp [Hp.set]
    · simp [Hp.set, e, ih]
theorem Hp.set_self {H : Hp} {b : Nat} {k : Blk} (h : H.get b = some k) : H.set b k.c = H := by
  induction H with
  | nil => rfl
  | cons x H ih =>
    obtain ⟨b', k'⟩ := x
    by_cases e : b' = b
    · subst e; simp [Hp.get] at h; subst h; simp [Hp.set]
    · simp [Hp.get, e] at h; simp [Hp.set, e, ih h]
theorem Hp.get_set_none {H : Hp} {b b' : Nat} (c : Nat → SV) (h : H.get b' = none) : (H.set b c).get b' = none := by
  by_cases e : b = b'
  · subst e
    induction H with
    | nil => rfl
    | cons x H ih =>
      obtain ⟨b1, k1⟩ := x
      by_cases e : b1 = b
      · subst e; simp [Hp.get] at h
      · simp [Hp.get, e] at h; simp [Hp.set, Hp.get, e, ih h]
  · rw [Hp.get_set_other _ e, h]

/-- The memory of world w: n blocks; those of H hold what H says; below w0's size all others are as in w0. -/
structure Mem (w0 : World) (H : Hp) (n : Nat) (w : World) : Prop where
  size : w.heap.size = n
  base : w0.heap.size ≤ n
  os : w.os = w0.os
  tape : w.tape = w0.tape
  output : w.output = w0.output
  blk : ∀ b k, H.get b = some k → w.heap[b]? = some k.obj
  frame : ∀ b, b < w0.heap.size → H.get b = none → w.heap[b]? = w0.heap[b]?
  frz : ∀ a, w.frozen? a = w0.frozen? a

theorem Mem.lt {w0 w : World} {H : Hp} {n b : Nat} {k : Blk} (h : Mem w0 H n w) (hb : H.get b = some k) : b < n := by
  have := h.blk b k hb
  rw [← h.size]
  exact (Array.getElem?_eq_some_iff.1 this).1

theorem Mem.fresh {w0 w : World} {H : Hp} {n b : Nat} (h : Mem w0 H n w) (hb : n ≤ b) : H.get b = none := by
  cases e : H.get b with
  | none => rfl
  | some k => have := h.lt e; omega

theorem Mem.cell {w0 w : World} {H : Hp} {n b off : Nat} {k : Blk} (h : Mem w0 H n w) (hb : H.get b = some k) (ho : off < k.size) :
    w.cell? ⟨b, off, none⟩ = some (k.c off).conc := by
  have e := h.blk b k hb
  simp only [World.cell?, e, Blk.obj]
  simpa using arrC_get _ _ _ ho

theorem Mem.drew {w0 w : World} {H : Hp} {n : Nat} (h : Mem w0 H n w) (d : Nat) : Mem w0 H n { w with drawn := d } :=
  ⟨h.size, h.base, h.os, h.tape, h.output, h.blk, h.frame, h.frz⟩

/-- A new block. -/
theorem Mem.push {w0 w : World} {H : Hp} {n : Nat} (h : Mem w0 H n w) (k : Blk) :
    Mem w0 ((n, k) :: H) (n + 1) { w with heap := w.heap.push k.obj } := by
  refine ⟨by simp [h.size], by have := h.base; omega, h.os, h.tape, h.output, ?_, ?_, ?_⟩
  · intro b k' hb
    by_cases e : n = b
    · subst e
      rw [Hp.get_eq] at hb
      cases hb
      have := h.size
      simp only [Array.getElem?_push, this, if_true]
    · rw [Hp.get_ne _ _ e] at hb
      have hlt := h.lt hb
      have := h.size
      simp only [Array.getElem?_push]
      rw [if_neg (by omega)]
      exact h.blk b k' hb
  · intro b hb hn
    have hne : n ≠ b := by have := h.base; omega
    rw [Hp.get_ne _ _ hne] at hn
    have := h.size
    simp only [Array.getElem?_push]
    rw [if_neg (by omega)]
    exact h.frame b hb hn
  · intro a
    have hs := h.size
    have hb := h.base
    by_cases e : a.block = n
    · have h0 : w0.frozen? a = false := by
        have : w0.heap[a.block]? = none := Array.getElem?_eq_none (by omega)
        simp [World.frozen?, this]
      rw [h0]
      have : (w.heap.push k.obj)[a.block]? = some k.obj := by rw [Array.getElem?_push, if_pos (by omega)]
      simp only [World.frozen?, this]
      simp [Blk.obj]
    · rw [← h.frz a]
      have : (w.heap.push k.obj)[a.block]? = w.heap[a.block]? := by rw [Array.getElem?_push, if_neg (by omega)]
      simp only [World.frozen?, this]

/-- One cell is written. -/
def put1 (c : Nat → SV) (o : Nat) (x : SV) : Nat → SV := fun i => if i = o then x else c i

theorem Mem.setCell {w0 w : World} {H : Hp} {n b off : Nat} {k : Blk} {x : SV} (h : Mem w0 H n w) (hb : H.get b = some k) (ho : off < k.size) :
    Mem w0 (H.set b (put1 k.c off x)) n (w.setCell ⟨b, off, none⟩ x.conc) := by
  have hw := h.blk b k hb
  refine ⟨by simp [World.setCell, h.size], h.base, h.os, h.tape, h.output, ?_, ?_, ?_⟩
  · intro b' k' hb'
    by_cases e : b = b'
    · subst e
      rw [Hp.get_set_self _ hb] at hb'
      cases hb'
      simp only [World.setCell, Array.getElem?_modify, if_true, hw, Option.map_some, Blk.obj, Option.isSome_none, Bool.false_eq_true, if_false]
      congr 2
      apply arrC_ext
      · simp
      · intro i hi
        rw [Array.getElem?_setIfInBounds]
        by_cases e : off = i
        · subst e; simp [put1, ho]
        · rw [if_neg e, arrC_get _ _ _ hi]
          simp [put1, Ne.symm e]
    · rw [Hp.get_set_other _ e] at hb'
      simp only [World.setCell, Array.getElem?_modify]
      rw [if_neg e]
      exact h.blk b' k' hb'
  · intro b' hb' hn
    have e : b ≠ b' := by
      intro e; subst e; rw [Hp.get_set_self _ hb] at hn; cases hn
    rw [Hp.get_set_other _ e] at hn
    simp only [World.setCell, Array.getElem?_modify]
    rw [if_neg e]
    exact h.frame b' hb' hn
  · intro a
    rw [← h.frz a]
    simp only [World.frozen?, World.setCell, Array.getElem?_modify]
    by_cases e : b = a.block
    · subst e
      rw [if_pos rfl, hw]
      simp [Blk.obj]
    · rw [if_neg e]

theorem Mem.frozen {w0 w : World} {H : Hp} {n b off : Nat} {k : Blk} (h : Mem w0 H n w) (hb : H.get b = some k) : w.frozen? ⟨b, off, none⟩ = false := by
  have e := h.blk b k hb
  simp [World.frozen?, e, Blk.obj]

theorem addr_add (b off i : Nat) : (⟨b, off, none⟩ : Addr).add i = ⟨b, off + i, none⟩ := by
  unfold Addr.add
  split
  · rename_i h; subst h; rfl
  · rfl

section
variable {P : Program}

theorem run_load {w0 w : World} {H : Hp} {n b off : Nat} {k : Blk} (h : Mem w0 H n w) (hb : H.get b = some k) (ho : off < k.size) :
    (load ⟨b, off, none⟩).run P w = .ok (k.c off).conc w := by
  simp [load, Sem.run, h.cell hb ho]

theorem run_loadCellsFrom {w0 w : World} {H : Hp} {n b off : Nat} {k : Blk} (h : Mem w0 H n w) (hb : H.get b = some k) :
    ∀ (m i : Nat) (acc : Array Value), off + i + m ≤ k.size → acc = arrC i (fun j => k.c (off + j)) →
      (loadCellsFrom ⟨b, off, none⟩ i m acc).run P w = .ok (arrC (i + m) (fun j => k.c (off + j))) w
  | 0, i, acc, _, ha => by subst ha; rfl
  | m + 1, i, acc, hs, ha => by
    unfold loadCellsFrom
    rw [addr_add, Sem.run_bind, run_load h hb (by omega)]
    simp only [Result.andThen_ok]
    rw [run_loadCellsFrom h hb m (i + 1) _ (by omega), show i + 1 + m = i + (m + 1) by omega]
    subst ha
    apply arrC_ext
    · simp
    · intro j hj
      rw [Array.getElem?_push]
      simp only [arrC_size]
      by_cases e : j = i
      · subst e; simp
      · rw [if_neg e, arrC_get _ _ _ (by omega)]

theorem run_loadCells {w0 w : World} {H : Hp} {n b off : Nat} {k : Blk} (h : Mem w0 H n w) (hb : H.get b = some k) (m : Nat) (ho : off + m ≤ k.size) :
    (loadCells ⟨b, off, none⟩ m).run P w = .ok (arrC m (fun j => k.c (off + j))) w := by
  unfold loadCells
  rw [run_loadCellsFrom h hb m 0 #[] (by omega) (by apply arrC_ext <;> simp)]
  simp

/-- Some cells are written: m cells from place o on. -/
def splice (c : Nat → SV) (o m : Nat) (d : Nat → SV) : Nat → SV := fun i => if o ≤ i ∧ i < o + m then d (i - o) else c i

theorem run_store {w0 w : World} {H : Hp} {n b off : Nat} {k : Blk} {x : SV} (h : Mem w0 H n w) (hb : H.get b = some k) (ho : off < k.size) :
    (store ⟨b, off, none⟩ x.conc).run P w = .ok () (w.setCell ⟨b, off, none⟩ x.conc) := by
  have h1 := h.cell hb ho
  have h2 := h.frozen (off := off) hb
  cases x <;> simp [store, SV.conc] at * <;> simp [Sem.run, h1, h2]

theorem run_storeCells {w0 : World} {b : Nat} (off : Nat) (d : Nat → SV) : ∀ (m i : Nat) (H : Hp) (n : Nat) (k : Blk) (w : World),
    Mem w0 H n w → H.get b = some k → off + i + m ≤ k.size →
      ∃ w', (storeCells ⟨b, off, none⟩ ((List.range m).map fun j => (d (i + j)).conc) i).run P w = .ok () w' ∧
        Mem w0 (H.set b (splice k.c (off + i) m (fun j => d (i + j)))) n w'
  | 0, i, H, n, k, w, h, hb, _ => by
    refine ⟨w, rfl, ?_⟩
    have : splice k.c (off + i) 0 (fun j => d (i + j)) = k.c := by
      funext j; unfold splice; rw [if_neg (by omega)]
    rw [this, Hp.set_self hb]; exact h
  | m + 1, i, H, n, k, w, h, hb, hs => by
    have h1 := h.setCell (off := off + i) (x := d i) hb (by omega)
    have hb1 := Hp.get_set_self (put1 k.c (off + i) (d i)) hb
    obtain ⟨w', hr, hm⟩ := run_storeCells off d m (i + 1) _ n _ _ h1 hb1 (by simp only; omega)
    refine ⟨w', ?_, ?_⟩
    · rw [List.range_succ_eq_map]
      simp only [List.map_cons, List.map_map, Nat.add_zero]
      unfold storeCells
      rw [addr_add, Sem.run_bind, run_store h hb (by omega)]
      simp only [Result.andThen_ok]
      rw [← hr]
      congr 2
      apply List.map_congr_left
      intro j _
      simp only [Function.comp, Nat.succ_eq_add_one]
      rw [show i + (j + 1) = i + 1 + j by omega]
    · rw [Hp.set_set] at hm
      have : splice (put1 k.c (off + i) (d i)) (off + (i + 1)) m (fun j => d (i + 1 + j)) = splice k.c (off + i) (m + 1) (fun j => d (i + j)) := by
        funext j
        unfold splice put1
        by_cases e : j = off + i
        · subst e
          rw [if_neg (by omega), if_pos rfl, if_pos (by omega)]; simp
        · by_cases e2 : off + (i + 1) ≤ j ∧ j < off + (i + 1) + m
          · have e3 : off + i ≤ j ∧ j < off + i + (m + 1) := by omega
            rw [if_pos e2, if_pos e3]; show d _ = d _; congr 1; omega
          · have e3 : ¬ (off + i ≤ j ∧ j < off + i + (m + 1)) := by omega
            rw [if_neg e2, if_neg e, if_neg e3]
      rw [← this]; exact hm

theorem arrC_toList (n : Nat) (c : Nat → SV) : (arrC n c).toList = (List.range n).map fun j => (c j).conc := by
  unfold arrC
  rw [Array.toList_ofFn]
  apply List.ext_getElem
  · simp
  · intro i h1 h2; simp

theorem run_storeArr {w0 w : World} {H : Hp} {n b off m : Nat} {k : Blk} {d : Nat → SV} (h : Mem w0 H n w) (hb : H.get b = some k) (ho : off + m ≤ k.size) :
    ∃ w', (storeCells ⟨b, off, none⟩ (arrC m d).toList).run P w = .ok () w' ∧ Mem w0 (H.set b (splice k.c off m d)) n w' := by
  obtain ⟨w', hr, hm⟩ := run_storeCells (P := P) (b := b) off d m 0 H n k w h hb (by omega)
  refine ⟨w', ?_, by simpa using hm⟩
  rw [arrC_toList, ← hr]
  simp

theorem Mem.start (w : World) : Mem w [] w.heap.size w := ⟨rfl, Nat.le_refl _, rfl, rfl, rfl, (fun _ _ h => by cases h), (fun _ _ _ => rfl), fun _ => rfl⟩
theorem Mem.below {w w' : World} {n : Nat} (h : Mem w [] n w') : RowKit.Below w.heap.size w w' :=
  ⟨h.os, h.tape, h.output, by rw [h.size]; exact h.base, fun b hb => h.frame b hb rfl⟩
end
end Go.V
