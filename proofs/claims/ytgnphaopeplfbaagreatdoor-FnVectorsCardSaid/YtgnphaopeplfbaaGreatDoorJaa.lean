/- Values, blocks and memory for walks over arrays: a block's content is a function of the place. -/
import Derived.Calls
import Derived.Below
import Derived.Laws.Cells
import Derived.Laws.Rows
import Derived.Deep.Quiet
import Derived.IntWalk
import Derived.ChangeKeysEq
import Derived.Laws.StructEq
import Derived.Laws.Tables
set_option linter.unusedSectionVars false
set_option linter.unusedVariables false
set_option linter.unusedSimpArgs false
namespace Go.V

/-- The truth of a proposition. -/
noncomputable def tb (Q : Prop) : Bool := @decide Q (Classical.propDecidable Q)
theorem tb_eq {Q : Prop} : tb Q = true ↔ Q := by unfold tb; exact @decide_eq_true_iff Q (Classical.propDecidable Q)
theorem tb_true {Q : Prop} (h : Q) : tb Q = true := tb_eq.2 h
theorem tb_false {Q : Prop} (h : ¬ Q) : tb Q = false := by
  cases e : tb Q with
  | false => rfl
  | true => exact absurd (tb_eq.1 e) h
theorem tb_eqF {Q : Prop} : tb Q = false ↔ ¬ Q := by
  constructor
  · intro h k; rw [tb_true k] at h; cases h
  · exact tb_false
theorem tb_iff {Q R : Prop} (h : Q ↔ R) : tb Q = tb R := by rw [show Q = R from propext h]
theorem tb_dec {Q : Prop} [Decidable Q] : tb Q = decide Q := by
  by_cases h : Q
  · rw [tb_true h, decide_eq_true h]
  · rw [tb_false h, decide_eq_false h]
theorem tb_not {Q : Prop} : (!tb Q) = tb (¬ Q) := by
  by_cases h : Q
  · rw [tb_true h, tb_false (fun k => k h)]; rfl
  · rw [tb_false h, tb_true h]; rfl


/-- A value of one cell. -/
inductive SV where
  | int (k : IntKind) (n : Int)
  | bool (b : Bool)
  | ptr (b off : Nat)
  | nil
  | slc (b off len cap : Nat)
  | nils
  | str (s : ByteArray)
  | fn (f : FuncId) (pre post : List SV)
  | nilfn
  | ifc (t : TypeId) (v : SV)
  | nilifc
  deriving Inhabited

mutual
def SV.conc : SV → Value
  | .int k n => .int k n
  | .bool b => .bool b
  | .ptr b off => .pointer (some ⟨b, off, none⟩)
  | .nil => .pointer none
  | .slc b off len cap => .slice (some ⟨b, off, none⟩) len cap
  | .nils => .slice none 0 0
  | .str s => .string s
  | .fn f pre post => .func (.func f) (SV.concs pre).toArray (SV.concs post).toArray
  | .nilfn => .nilFunc
  | .ifc t v => .iface t v.conc
  | .nilifc => .nilIface
def SV.concs : List SV → List Value
  | [] => []
  | x :: l => x.conc :: SV.concs l
end

theorem SV.concs_eq (l : List SV) : SV.concs l = l.map SV.conc := by
  induction l with
  | nil => rfl
  | cons x l ih => simp [SV.concs, ih]

theorem SV.cells (x : SV) : x.conc.cells = #[x.conc] := by
  cases x <;> rfl

/-- A value: of one cell, an aggregate of n cells, or several results. -/
inductive AV where
  | s (x : SV)
  | arr (n : Nat) (c : Nat → SV)
  | tup (l : List AV)

def arrC (n : Nat) (c : Nat → SV) : Array Value := Array.ofFn (n := n) fun i => (c i).conc

mutual
def AV.conc : AV → Value
  | .s x => x.conc
  | .arr n c => .agg (arrC n c)
  | .tup l => .tuple (AV.concs l).toArray
def AV.concs : List AV → List Value
  | [] => []
  | x :: l => x.conc :: AV.concs l
end

theorem AV.concs_eq (l : List AV) : AV.concs l = l.map AV.conc := by
  induction l with
  | nil => rfl
  | cons x l ih => simp [AV.concs, ih]

abbrev AV.undef : AV := .tup []
theorem AV.undef_conc : AV.undef.conc = Go.undef := rfl

@[simp] theorem arrC_size (n : Nat) (c : Nat → SV) : (arrC n c).size = n := by simp [arrC]
theorem arrC_get (n : Nat) (c : Nat → SV) (i : Nat) (h : i < n) : (arrC n c)[i]? = some (c i).conc := by
  simp [arrC, h]
theorem arrC_get_ge (n : Nat) (c : Nat → SV) (i : Nat) (h : n ≤ i) : (arrC n c)[i]? = none := by
  simp [arrC, h]
theorem arrC_ext {n : Nat} {c : Nat → SV} {a : Array Value} (hs : a.size = n) (h : ∀ i, i < n → a[i]? = some (c i).conc) : a = arrC n c := by
  apply Array.ext_getElem?
  intro i
  by_cases hi : i < n
  · rw [h i hi, arrC_get _ _ _ hi]
  · rw [arrC_get_ge _ _ _ (by omega), Array.getElem?_eq_none (by omega)]
theorem arrC_congr {n : Nat} {c d : Nat → SV} (h : ∀ i, i < n → c i = d i) : arrC n c = arrC n d :=
  (arrC_ext (by simp) (fun i hi => by rw [arrC_get _ _ _ hi, h i hi]))
theorem arrC_extract (n : Nat) (c : Nat → SV) (o m : Nat) (h : o + m ≤ n) : (arrC n c).extract o (o + m) = arrC m (fun i => c (o + i)) := by
  apply arrC_ext
  · simp; omega
  · intro i hi
    rw [Array.getElem?_extract]
    simp only [arrC_size]
    rw [if_pos (by omega), arrC_get _ _ _ (by omega)]

/-- A block of memory. -/
structure Blk where
  size : Nat
  c : Nat → SV
  ty : TypeId

def Blk.obj (k : Blk) : Obj := .cells (arrC k.size k.c) k.ty (0, 0)

abbrev Hp := List (Nat × Blk)

def Hp.get : Hp → Nat → Option Blk
  | [], _ => none
  | (b, k) :: H, b' => if b = b' then some k else Hp.get H b'

def Hp.set : Hp → Nat → (Nat → SV) → Hp
  | [], _, _ => []
  | (b, k) :: H, b', c => if b = b' then (b, ⟨k.size, c, k.ty⟩) :: H else (b, k) :: Hp.set H b' c

theorem Hp.get_eq (H : Hp) (b : Nat) (k : Blk) : Hp.get ((b, k) :: H) b = some k := by simp [Hp.get]
theorem Hp.get_ne (H : Hp) {b b' : Nat} (k : Blk) (h : b ≠ b') : Hp.get ((b, k) :: H) b' = Hp.get H b' := by simp [Hp.get, h]
theorem Hp.set_eq (H : Hp) (b : Nat) (k : Blk) (c : Nat → SV) : Hp.set ((b, k) :: H) b c = (b, ⟨k.size, c, k.ty⟩) :: H := by simp [Hp.set]
theorem Hp.set_ne (H : Hp) {b b' : Nat} (k : Blk) (c : Nat → SV) (h : b ≠ b') : Hp.set ((b, k) :: H) b' c = (b, k) :: Hp.set H b' c := by simp [Hp.set, h]

theorem Hp.get_set_self {H : Hp} {b : Nat} {k : Blk} (c : Nat → SV) (h : H.get b = some k) : (H.set b c).get b = some ⟨k.size, c, k.ty⟩ := by
  induction H with
  | nil => simp [Hp.get] at h
  | cons x H ih =>
    obtain ⟨b', k'⟩ := x
    by_cases e : b' = b
    · subst e; simp [Hp.get] at h; subst h; simp [Hp.set, Hp.get]
    · simp [Hp.get, e] at h; simp [Hp.set, Hp.get, e, ih h]
theorem Hp.get_set_other {H : Hp} {b b' : Nat} (c : Nat → SV) (h : b ≠ b') : (H.set b c).get b' = H.get b' := by
  induction H with
  | nil => rfl
  | cons x H ih =>
    obtain ⟨b1, k1⟩ := x
    by_cases e : b1 = b
    · subst e; simp [Hp.set, Hp.get, h]
    · simp [Hp.set, Hp.get, e, ih]
theorem Hp.set_set {H : Hp} {b : Nat} (c d : Nat → SV) : (H.set b c).set b d = H.set b d := by
  induction H with
  | nil => rfl
  | cons x H ih =>
    obtain ⟨b1, k1⟩ := x
    by_cases e : b1 = b
    · subst e; simp [Hp.set]
    · simp [Hp.set, e, ih]
theorem Hp.set_self {H : Hp} {b : Nat} {k : Blk} (h : H.get b = some k) : H.set b k.c = H := by
  induction H with
  | nil => rfl
  | cons x H ih =>
    obtain ⟨b', k'⟩ := x
    by_cases e : b' = b
    · subst e; simp [Hp.get] at h; subst h; simp [Hp.set]
    · simp [Hp.get, e] at h; simp [Hp.set, e, ih h]
theorem Hp.get_set_none {H : Hp} {b b' : Nat} (c : Nat → SV) (h : H.get b' = none) : (H.set b c).get b' = none := by
  by_cases e : b = b'
  · subst e
    induction H with
    | nil => rfl
    | cons x H ih =>
      obtain ⟨b1, k1⟩ := x
      by_cases e : b1 = b
      · subst e; simp [Hp.get] at h
      · simp [Hp.get, e] at h; simp [Hp.set, Hp.get, e, ih h]
  · rw [Hp.get_set_other _ e, h]

/-- What is known of cells that are there before and are only read. -/
class BW where
  cell : Nat → Nat → Option SV
/-- Nothing. -/
instance noBW : BW := ⟨fun _ _ => none⟩
variable [BW]
/-- The memory of world w: n blocks; those of H hold what H says; below w0's size all others are as in w0. -/
structure Mem (w0 : World) (H : Hp) (n : Nat) (w : World) : Prop where
  size : w.heap.size = n
  base : w0.heap.size ≤ n
  os : w.os = w0.os
  tape : w.tape = w0.tape
  output : w.output = w0.output
  blk : ∀ b k, H.get b = some k → w.heap[b]? = some k.obj
  frame : ∀ b, b < w0.heap.size → H.get b = none → w.heap[b]? = w0.heap[b]?
  frz : ∀ a, a.block < w0.heap.size → w.frozen? a = w0.frozen? a
  ro : ∀ b off v, BW.cell b off = some v → b < w0.heap.size ∧ H.get b = none ∧ w.cell? ⟨b, off, none⟩ = some v.conc

theorem Mem.lt {w0 w : World} {H : Hp} {n b : Nat} {k : Blk} (h : Mem w0 H n w) (hb : H.get b = some k) : b < n := by
  have := h.blk b k hb
  rw [← h.size]
  exact (Array.getElem?_eq_some_iff.1 this).1

theorem Mem.fresh {w0 w : World} {H : Hp} {n b : Nat} (h : Mem w0 H n w) (hb : n ≤ b) : H.get b = none := by
  cases e : H.get b with
  | none => rfl
  | some k => have := h.lt e; omega

theorem Mem.cell {w0 w : World} {H : Hp} {n b off : Nat} {k : Blk} (h : Mem w0 H n w) (hb : H.get b = some k) (ho : off < k.size) :
    w.cell? ⟨b, off, none⟩ = some (k.c off).conc := by
  have e := h.blk b k hb
  simp only [World.cell?, e, Blk.obj]
  simpa using arrC_get _ _ _ ho

theorem Mem.drew {w0 w : World} {H : Hp} {n : Nat} (h : Mem w0 H n w) (d : Nat) : Mem w0 H n { w with drawn := d } :=
  ⟨h.size, h.base, h.os, h.tape, h.output, h.blk, h.frame, h.frz, h.ro⟩

/-- A new block. -/
theorem Mem.push {w0 w : World} {H : Hp} {n : Nat} (h : Mem w0 H n w) (k : Blk) :
    Mem w0 ((n, k) :: H) (n + 1) { w with heap := w.heap.push k.obj } := by
  refine ⟨by simp [h.size], by have := h.base; omega, h.os, h.tape, h.output, ?_, ?_, ?_, fun b off v hv => ?_⟩
  · intro b k' hb
    by_cases e : n = b
    · subst e
      rw [Hp.get_eq] at hb
      cases hb
      have := h.size
      simp only [Array.getElem?_push, this, if_true]
    · rw [Hp.get_ne _ _ e] at hb
      have hlt := h.lt hb
      have := h.size
      simp only [Array.getElem?_push]
      rw [if_neg (by omega)]
      exact h.blk b k' hb
  · intro b hb hn
    have hne : n ≠ b := by have := h.base; omega
    rw [Hp.get_ne _ _ hne] at hn
    have := h.size
    simp only [Array.getElem?_push]
    rw [if_neg (by omega)]
    exact h.frame b hb hn
  · intro a ha
    have hs := h.size
    have hb := h.base
    by_cases e : a.block = n
    · omega
    · rw [← h.frz a ha]
      have : (w.heap.push k.obj)[a.block]? = w.heap[a.block]? := by rw [Array.getElem?_push, if_neg (by omega)]
      simp only [World.frozen?, this]
  · obtain ⟨h1, h2, h3⟩ := h.ro b off v hv
    have hne : n ≠ b := by have := h.base; omega
    refine ⟨h1, by rw [Hp.get_ne _ _ hne]; exact h2, ?_⟩
    have e : (w.heap.push k.obj)[b]? = w.heap[b]? := by rw [Array.getElem?_push, if_neg (by rw [h.size]; omega)]
    rw [← h3]
    simp only [World.cell?, e]

/-- One cell is written. -/
def put1 (c : Nat → SV) (o : Nat) (x : SV) : Nat → SV := fun i => if i = o then x else c i

theorem Mem.setCell {w0 w : World} {H : Hp} {n b off : Nat} {k : Blk} {x : SV} (h : Mem w0 H n w) (hb : H.get b = some k) (ho : off < k.size) :
    Mem w0 (H.set b (put1 k.c off x)) n (w.setCell ⟨b, off, none⟩ x.conc) := by
  have hw := h.blk b k hb
  refine ⟨by simp [World.setCell, h.size], h.base, h.os, h.tape, h.output, ?_, ?_, ?_, fun b' off' v hv => ?_⟩
  · intro b' k' hb'
    by_cases e : b = b'
    · subst e
      rw [Hp.get_set_self _ hb] at hb'
      cases hb'
      simp only [World.setCell, Array.getElem?_modify, if_true, hw, Option.map_some, Blk.obj, Option.isSome_none, Bool.false_eq_true, if_false]
      congr 2
      apply arrC_ext
      · simp
      · intro i hi
        rw [Array.getElem?_setIfInBounds]
        by_cases e : off = i
        · subst e; simp [put1, ho]
        · rw [if_neg e, arrC_get _ _ _ hi]
          simp [put1, Ne.symm e]
    · rw [Hp.get_set_other _ e] at hb'
      simp only [World.setCell, Array.getElem?_modify]
      rw [if_neg e]
      exact h.blk b' k' hb'
  · intro b' hb' hn
    have e : b ≠ b' := by
      intro e; subst e; rw [Hp.get_set_self _ hb] at hn; cases hn
    rw [Hp.get_set_other _ e] at hn
    simp only [World.setCell, Array.getElem?_modify]
    rw [if_neg e]
    exact h.frame b' hb' hn
  · intro a ha
    rw [← h.frz a ha]
    simp only [World.frozen?, World.setCell, Array.getElem?_modify]
    by_cases e : b = a.block
    · subst e
      rw [if_pos rfl, hw]
      simp [Blk.obj]
    · rw [if_neg e]
  · obtain ⟨h1, h2, h3⟩ := h.ro b' off' v hv
    have e : b ≠ b' := by
      intro e; subst e; rw [hb] at h2; cases h2
    refine ⟨h1, by rw [Hp.get_set_other _ e]; exact h2, ?_⟩
    rw [← h3]
    simp only [World.cell?, World.setCell, Array.getElem?_modify]
    rw [if_neg e]

theorem Mem.frozen {w0 w : World} {H : Hp} {n b off : Nat} {k : Blk} (h : Mem w0 H n w) (hb : H.get b = some k) : w.frozen? ⟨b, off, none⟩ = false := by
  have e := h.blk b k hb
  simp [World.frozen?, e, Blk.obj]

theorem addr_add (b off i : Nat) : (⟨b, off, none⟩ : Addr).add i = ⟨b, off + i, none⟩ := by
  unfold Addr.add
  split
  · rename_i h; subst h; rfl
  · rfl

section
variable {P : Program}

theorem run_load {w0 w : World} {H : Hp} {n b off : Nat} {k : Blk} (h : Mem w0 H n w) (hb : H.get b = some k) (ho : off < k.size) :
    (load ⟨b, off, none⟩).run P w = .ok (k.c off).conc w := by
  simp [load, Sem.run, h.cell hb ho]

theorem run_loadCellsFrom {w0 w : World} {H : Hp} {n b off : Nat} {k : Blk} (h : Mem w0 H n w) (hb : H.get b = some k) :
    ∀ (m i : Nat) (acc : Array Value), off + i + m ≤ k.size → acc = arrC i (fun j => k.c (off + j)) →
      (loadCellsFrom ⟨b, off, none⟩ i m acc).run P w = .ok (arrC (i + m) (fun j => k.c (off + j))) w
  | 0, i, acc, _, ha => by subst ha; rfl
  | m + 1, i, acc, hs, ha => by
    unfold loadCellsFrom
    rw [addr_add, Sem.run_bind, run_load h hb (by omega)]
    simp only [Result.andThen_ok]
    rw [run_loadCellsFrom h hb m (i + 1) _ (by omega), show i + 1 + m = i + (m + 1) by omega]
    subst ha
    apply arrC_ext
    · simp
    · intro j hj
      rw [Array.getElem?_push]
      simp only [arrC_size]
      by_cases e : j = i
      · subst e; simp
      · rw [if_neg e, arrC_get _ _ _ (by omega)]

theorem run_loadCells {w0 w : World} {H : Hp} {n b off : Nat} {k : Blk} (h : Mem w0 H n w) (hb : H.get b = some k) (m : Nat) (ho : off + m ≤ k.size) :
    (loadCells ⟨b, off, none⟩ m).run P w = .ok (arrC m (fun j => k.c (off + j))) w := by
  unfold loadCells
  rw [run_loadCellsFrom h hb m 0 #[] (by omega) (by apply arrC_ext <;> simp)]
  simp

/-- Some cells are written: m cells from place o on. -/
def splice (c : Nat → SV) (o m : Nat) (d : Nat → SV) : Nat → SV := fun i => if o ≤ i ∧ i < o + m then d (i - o) else c i

theorem run_store {w0 w : World} {H : Hp} {n b off : Nat} {k : Blk} {x : SV} (h : Mem w0 H n w) (hb : H.get b = some k) (ho : off < k.size) :
    (store ⟨b, off, none⟩ x.conc).run P w = .ok () (w.setCell ⟨b, off, none⟩ x.conc) := by
  have h1 := h.cell hb ho
  have h2 := h.frozen (off := off) hb
  cases x <;> simp [store, SV.conc] at * <;> simp [Sem.run, h1, h2]

theorem run_storeCells {w0 : World} {b : Nat} (off : Nat) (d : Nat → SV) : ∀ (m i : Nat) (H : Hp) (n : Nat) (k : Blk) (w : World),
    Mem w0 H n w → H.get b = some k → off + i + m ≤ k.size →
      ∃ w', (storeCells ⟨b, off, none⟩ ((List.range m).map fun j => (d (i + j)).conc) i).run P w = .ok () w' ∧
        Mem w0 (H.set b (splice k.c (off + i) m (fun j => d (i + j)))) n w'
  | 0, i, H, n, k, w, h, hb, _ => by
    refine ⟨w, rfl, ?_⟩
    have : splice k.c (off + i) 0 (fun j => d (i + j)) = k.c := by
      funext j; unfold splice; rw [if_neg (by omega)]
    rw [this, Hp.set_self hb]; exact h
  | m + 1, i, H, n, k, w, h, hb, hs => by
    have h1 := h.setCell (off := off + i) (x := d i) hb (by omega)
    have hb1 := Hp.get_set_self (put1 k.c (off + i) (d i)) hb
    obtain ⟨w', hr, hm⟩ := run_storeCells off d m (i + 1) _ n _ _ h1 hb1 (by simp only; omega)
    refine ⟨w', ?_, ?_⟩
    · rw [List.range_succ_eq_map]
      simp only [List.map_cons, List.map_map, Nat.add_zero]
      unfold storeCells
      rw [addr_add, Sem.run_bind, run_store h hb (by omega)]
      simp only [Result.andThen_ok]
      rw [← hr]
      congr 2
      apply List.map_congr_left
      intro j _
      simp only [Function.comp, Nat.succ_eq_add_one]
      rw [show i + (j + 1) = i + 1 + j by omega]
    · rw [Hp.set_set] at hm
      have : splice (put1 k.c (off + i) (d i)) (off + (i + 1)) m (fun j => d (i + 1 + j)) = splice k.c (off + i) (m + 1) (fun j => d (i + j)) := by
        funext j
        unfold splice put1
        by_cases e : j = off + i
        · subst e
          rw [if_neg (by omega), if_pos rfl, if_pos (by omega)]; simp
        · by_cases e2 : off + (i + 1) ≤ j ∧ j < off + (i + 1) + m
          · have e3 : off + i ≤ j ∧ j < off + i + (m + 1) := by omega
            rw [if_pos e2, if_pos e3]; show d _ = d _; congr 1; omega
          · have e3 : ¬ (off + i ≤ j ∧ j < off + i + (m + 1)) := by omega
            rw [if_neg e2, if_neg e, if_neg e3]
      rw [← this]; exact hm

theorem arrC_toList (n : Nat) (c : Nat → SV) : (arrC n c).toList = (List.range n).map fun j => (c j).conc := by
  unfold arrC
  rw [Array.toList_ofFn]
  apply List.ext_getElem
  · simp
  · intro i h1 h2; simp

theorem run_storeArr {w0 w : World} {H : Hp} {n b off m : Nat} {k : Blk} {d : Nat → SV} (h : Mem w0 H n w) (hb : H.get b = some k) (ho : off + m ≤ k.size) :
    ∃ w', (storeCells ⟨b, off, none⟩ (arrC m d).toList).run P w = .ok () w' ∧ Mem w0 (H.set b (splice k.c off m d)) n w' := by
  obtain ⟨w', hr, hm⟩ := run_storeCells (P := P) (b := b) off d m 0 H n k w h hb (by omega)
  refine ⟨w', ?_, by simpa using hm⟩
  rw [arrC_toList, ← hr]
  simp

theorem Mem.start (w : World) (h : ∀ b off v, BW.cell b off = some v → w.cell? ⟨b, off, none⟩ = some v.conc) : Mem w [] w.heap.size w :=
  ⟨rfl, Nat.le_refl _, rfl, rfl, rfl, (fun _ _ h => by cases h), (fun _ _ _ => rfl), fun _ _ => rfl, fun b off v hv => by
    have h1 := h b off v hv
    refine ⟨?_, rfl, h1⟩
    rcases Nat.lt_or_ge b w.heap.size with e | e
    · exact e
    · have : w.heap[b]? = none := Array.getElem?_eq_none e
      simp [World.cell?, this] at h1⟩
theorem run_ro {w0 w : World} {H : Hp} {n b off : Nat} {v : SV} (h : Mem w0 H n w) (hv : BW.cell b off = some v) :
    (load ⟨b, off, none⟩).run P w = .ok v.conc w := by
  simp [load, Sem.run, (h.ro b off v hv).2.2]
theorem run_rosFrom {w0 w : World} {H : Hp} {n b off M : Nat} {c : Nat → SV} (h : Mem w0 H n w) (hc : ∀ i, i < M → BW.cell b (off + i) = some (c i)) :
    ∀ (m i : Nat) (acc : Array Value), i + m ≤ M → acc = arrC i c → (loadCellsFrom ⟨b, off, none⟩ i m acc).run P w = .ok (arrC (i + m) c) w
  | 0, i, acc, _, ha => by subst ha; rfl
  | m + 1, i, acc, hs, ha => by
    unfold loadCellsFrom
    rw [addr_add, Sem.run_bind, run_ro h (hc i (by omega))]
    simp only [Result.andThen_ok]
    rw [run_rosFrom h hc m (i + 1) _ (by omega), show i + 1 + m = i + (m + 1) by omega]
    subst ha
    apply arrC_ext
    · simp
    · intro j hj
      rw [Array.getElem?_push]
      simp only [arrC_size]
      by_cases e : j = i
      · subst e; simp
      · rw [if_neg e, arrC_get _ _ _ (by omega)]
theorem run_ros {w0 w : World} {H : Hp} {n b off M : Nat} {c : Nat → SV} (h : Mem w0 H n w) (hc : ∀ i, i < M → BW.cell b (off + i) = some (c i)) :
    (loadCells ⟨b, off, none⟩ M).run P w = .ok (arrC M c) w := by
  unfold loadCells
  rw [run_rosFrom h hc M 0 #[] (by omega) (by apply arrC_ext <;> simp)]
  simp
theorem Mem.below {w w' : World} {n : Nat} (h : Mem w [] n w') : RowKit.Below w.heap.size w w' :=
  ⟨h.os, h.tape, h.output, by rw [h.size]; exact h.base, fun b hb => h.frame b hb rfl⟩
end
end Go.V

/- Instructions in a short form, what the pure ones yield, and that they yield it. -/
namespace Go.V
variable [BW]

inductive X where
  | t (t : Nat)
  | c (v : SV)
  deriving Inhabited

abbrev Env := List (Nat × AV)

def Env.get : Env → Nat → Option AV
  | [], _ => none
  | (t, v) :: e, t' => match Nat.beq t t' with | true => some v | false => Env.get e t'
def Env.del : Env → Nat → Env
  | [], _ => []
  | (t, v) :: e, t' => match Nat.beq t t' with | true => Env.del e t' | false => (t, v) :: Env.del e t'
def Env.put (e : Env) (d : Nat) (v : AV) : Env := (d, v) :: e

theorem Env.get_cons (e : Env) (t t' : Nat) (v : AV) : Env.get ((t, v) :: e) t' = if t = t' then some v else Env.get e t' := by
  simp only [Env.get]
  cases h : Nat.beq t t' with
  | true => rw [if_pos (Nat.eq_of_beq_eq_true h)]
  | false => rw [if_neg (Nat.ne_of_beq_eq_false h)]
theorem Env.get_del_ne {e : Env} {t t' : Nat} (h : t ≠ t') : (Env.del e t).get t' = e.get t' := by
  induction e with
  | nil => rfl
  | cons x e ih =>
    obtain ⟨u, v⟩ := x
    simp only [Env.del]
    cases hb : Nat.beq u t with
    | true =>
      have := Nat.eq_of_beq_eq_true hb
      subst this
      rw [Env.get_cons, if_neg h]; exact ih
    | false => simp only [Env.get_cons, ih]

def X.ev (e : Env) : X → Option AV
  | .t i => e.get i
  | .c v => some (.s v)

/-- The frame's slots hold what e says. -/
structure Ag (N : Nat) (e : Env) (a : Act) : Prop where
  size : a.tmps.size = N
  defers : a.defers = []
  get : ∀ t v, e.get t = some v → a.tmps[t]? = some v.conc

theorem Ag.put {N : Nat} {e : Env} {a : Act} (h : Ag N e a) {d : Nat} (hd : d < N) (v : AV) : Ag N (e.put d v) (a.put (some d) v.conc) := by
  refine ⟨by simp [Act.put, h.size], h.defers, fun t u hu => ?_⟩
  simp only [Env.put, Env.get_cons] at hu
  simp only [Act.put]
  by_cases e1 : d = t
  · subst e1
    rw [if_pos rfl] at hu
    cases hu
    rw [Array.getElem?_setIfInBounds]
    simp [h.size, hd]
  · rw [if_neg e1] at hu
    rw [Array.getElem?_setIfInBounds_ne e1]
    exact h.get t u hu

/-- Cells by runs. -/
abbrev Zs := List (Nat × SV)
def Zs.c : Zs → Nat → SV
  | [] => fun _ => .nilfn
  | [(_, v)] => fun _ => v
  | (n, v) :: l => fun i => if i < n then v else Zs.c l (i - n)
def Zs.size : Zs → Nat
  | [] => 0
  | (n, _) :: l => n + Zs.size l

def svOf : Value → Option SV
  | .int k n => some (.int k n)
  | .bool b => some (.bool b)
  | .string s => some (.str s)
  | .pointer none => some .nil
  | .slice none 0 0 => some .nils
  | .nilFunc => some .nilfn
  | .nilIface => some .nilifc
  | _ => none

theorem svOf_spec {v : Value} {x : SV} (h : svOf v = some x) : v = x.conc := by
  unfold svOf at h
  split at h <;> first | (cases h; rfl) | cases h

def svEq : SV → SV → Bool
  | .int .i64 a, .int .i64 b => a == b
  | .int .u8 a, .int .u8 b => a == b
  | .int .u64 a, .int .u64 b => a == b
  | .int .i32 a, .int .i32 b => a == b
  | .bool a, .bool b => a == b
  | .str a, .str b => a.size == 0 && b.size == 0
  | .nil, .nil => true
  | .nils, .nils => true
  | .nilfn, .nilfn => true
  | .nilifc, .nilifc => true
  | _, _ => false

theorem svEq_spec {x y : SV} (h : svEq x y = true) : x = y := by
  unfold svEq at h
  split at h <;> simp_all

def rle : List SV → Zs
  | [] => []
  | x :: l => match rle l with
    | (n, y) :: r => if svEq x y then (n + 1, y) :: r else (1, x) :: (n, y) :: r
    | [] => [(1, x)]

theorem Zs.c_cons (n : Nat) (v : SV) (l : Zs) (i : Nat) (h : i < n + Zs.size l) : Zs.c ((n, v) :: l) i = if i < n then v else Zs.c l (i - n) := by
  cases l with
  | nil =>
    simp [Zs.size] at h
    simp [Zs.c, h]
  | cons x l => simp [Zs.c]

theorem rle_size (l : List SV) : Zs.size (rle l) = l.length := by
  induction l with
  | nil => rfl
  | cons x l ih =>
    simp only [rle]
    split
    · rename_i n y r h
      rw [h] at ih
      simp only [Zs.size] at ih
      split <;> simp only [Zs.size, List.length_cons] <;> omega
    · rename_i h
      rw [h] at ih
      simp only [Zs.size] at ih
      simp [Zs.size, ← ih]

theorem rle_get (l : List SV) : ∀ (i : Nat) (h : i < l.length), Zs.c (rle l) i = l[i] := by
  induction l with
  | nil => intro i h; simp at h
  | cons x l ih =>
    intro i h
    have hs := rle_size l
    simp only [rle]
    split
    · rename_i n y r hr
      rw [hr] at ih hs
      simp only [Zs.size] at hs
      simp only [List.length_cons] at h
      split
      · rename_i he
        have he := svEq_spec he
        subst he
        rw [Zs.c_cons _ _ _ _ (by omega)]
        cases i with
        | zero => simp
        | succ i =>
          have h1 := ih i (by omega)
          rw [Zs.c_cons _ _ _ _ (by omega)] at h1
          simp only [List.getElem_cons_succ, ← h1]
          by_cases e : i < n
          · rw [if_pos e, if_pos (by omega)]
          · rw [if_neg e, if_neg (by omega)]; congr 1; omega
      · rw [Zs.c_cons _ _ _ _ (by simp only [Zs.size]; omega)]
        cases i with
        | zero => simp
        | succ i =>
          rw [if_neg (by omega)]
          simp only [List.getElem_cons_succ, Nat.add_sub_cancel]
          exact ih i (by omega)
    · rename_i hr
      rw [hr] at hs
      simp only [Zs.size] at hs
      simp only [List.length_cons] at h
      have : i = 0 := by omega
      subst this
      simp [Zs.c]

/-- The zero value of a type, by runs. -/
def zOf (P : Program) (t : TypeId) : Option Zs := do
  let i ← P.info? t
  let z ← i.zero
  let l ← z.cells.toList.mapM svOf
  if l.length = i.size then some (rle l) else none

theorem mapM_svOf : ∀ (l : List Value) (r : List SV), l.mapM svOf = some r → l = r.map SV.conc
  | [], r, h => by simp at h; subst h; rfl
  | v :: l, r, h => by
    simp only [List.mapM_cons, bind, Option.bind_eq_some_iff] at h
    obtain ⟨x, hx, l', hl, h⟩ := h
    simp only [pure, Option.some.injEq] at h
    subst h
    simp [svOf_spec hx, mapM_svOf l l' hl]

theorem zOf_spec {P : Program} {t : TypeId} {z : Zs} (h : zOf P t = some z) :
    ∃ i v, P.info? t = some i ∧ i.zero = some v ∧ v.cells = arrC z.size z.c ∧ i.size = z.size := by
  simp only [zOf, bind, Option.bind_eq_some_iff] at h
  obtain ⟨i, hi, v, hv, l, hl, h⟩ := h
  split at h
  · rename_i hs
    cases h
    refine ⟨i, v, hi, hv, ?_, by rw [rle_size, hs]⟩
    have hm := mapM_svOf _ _ hl
    apply arrC_ext
    · rw [← Array.length_toList, hm, rle_size]; simp
    · intro j hj
      rw [rle_size] at hj
      rw [rle_get _ _ hj, ← Array.getElem?_toList, hm]
      simp [hj]
  · cases h

/-- Is a type an aggregate, and of how many cells? -/
def shOf (P : Program) (t : TypeId) : Option (Option Nat) := do
  let i ← P.info? t
  match ← P.underlying t with
  | .struct _ | .array _ _ => some (some i.size)
  | _ => some none

section
variable {P : Program}

theorem run_loadVar {w0 w : World} {H : Hp} {n b off : Nat} {k : Blk} {t : TypeId} {m : Option Nat} (hm : shOf P t = some m) (h : Mem w0 H n w) (hb : H.get b = some k)
    (ho : off + m.getD 1 ≤ k.size) :
    (loadVar t ⟨b, off, none⟩).run P w = .ok (match m with | some z => AV.arr z (fun j => k.c (off + j)) | none => .s (k.c off)).conc w := by
  simp only [shOf, bind, Option.bind_eq_some_iff] at hm
  obtain ⟨i, hi, d, hd, hm⟩ := hm
  have hu := run_underlying (P := P) hd w
  have hz : (sizeOf t).run P w = .ok i.size w := by simp [sizeOf, typeInfo, hi]
  unfold loadVar isAgg
  split at hm
  · cases hm
    simp only [Option.getD_some] at ho
    simp [hu, hz, run_loadCells h hb _ ho, AV.conc]
  · cases hm
    simp only [Option.getD_some] at ho
    simp [hu, hz, run_loadCells h hb _ ho, AV.conc]
  · rename_i h1 h2
    cases hm
    simp only [Option.getD_none] at ho
    have hl := run_load (P := P) h hb (off := off) (by omega)
    rw [Sem.run_bind, Sem.run_bind, hu]
    simp only [Result.andThen_ok]
    cases d <;> first | exact absurd rfl (h1 _) | exact absurd rfl (h2 _ _) | simpa [AV.conc] using hl

theorem run_roVar2 {w0 w : World} {H : Hp} {n b off z : Nat} {c : Nat → SV} {t : TypeId} (hm : shOf P t = some (some z)) (h : Mem w0 H n w) (hc : ∀ i, i < z → BW.cell b (off + i) = some (c i)) :
    (loadVar t ⟨b, off, none⟩).run P w = .ok (AV.arr z c).conc w := by
  simp only [shOf, bind, Option.bind_eq_some_iff] at hm
  obtain ⟨i, hi, d, hd, hm⟩ := hm
  have hu := run_underlying (P := P) hd w
  have hz : (sizeOf t).run P w = .ok i.size w := by simp [sizeOf, typeInfo, hi]
  unfold loadVar isAgg
  split at hm
  · cases hm
    simp [hu, hz, run_ros h hc, AV.conc]
  · cases hm
    simp [hu, hz, run_ros h hc, AV.conc]
  · cases hm
theorem run_roVar1 {w0 w : World} {H : Hp} {n b off : Nat} {v : SV} {t : TypeId} (hm : shOf P t = some none) (h : Mem w0 H n w) (hv : BW.cell b off = some v) :
    (loadVar t ⟨b, off, none⟩).run P w = .ok (AV.s v).conc w := by
  simp only [shOf, bind, Option.bind_eq_some_iff] at hm
  obtain ⟨i, hi, d, hd, hm⟩ := hm
  have hu := run_underlying (P := P) hd w
  unfold loadVar isAgg
  split at hm
  · cases hm
  · cases hm
  · rename_i h1 h2
    have hl := run_ro (P := P) h hv
    rw [Sem.run_bind, Sem.run_bind, hu]
    simp only [Result.andThen_ok]
    cases d <;> first | exact absurd rfl (h1 _) | exact absurd rfl (h2 _ _) | simpa [AV.conc] using hl

end
end Go.V

/- The instructions, their translation, and what the pure ones yield. -/
namespace Go.V
variable [BW]
set_option linter.unusedSimpArgs false
set_option linter.unusedVariables false

inductive I where
  | mov (x : X)
  | pick (c a b : X)
  | build (n : Nat) (z : Zs) (ps : List (Nat × Nat × X))
  | ld (m : Option Nat) (x : X)
  | ck (x : X)
  | bin (op : BinOp) (x y : X)
  | beq (neg : Bool) (x y : X)
  | snil (neg : Bool) (x : X)
  | inil (neg : Bool) (x : X)
  | eqa (neg : Bool) (n : Nat) (x y : X)
  | un (op : UnOp) (x : X)
  | cv (k : IntKind) (x : X)
  | fa (off : Nat) (x : X)
  | fl (off : Nat) (m : Option Nat) (x : X)
  | ia (len sz : Nat) (x i : X)
  | isl (sz : Nat) (x i : X)
  | ix (len sz : Nat) (m : Option Nat) (x i : X)
  | ss (x i : X)
  | ex (x : X) (k : Nat)
  | mkf (f : FuncId) (pre post : List X)
  | len (x : X)
  | lens (x : X)
  | lenc (n : Nat)
  | sla (len sz : Nat) (x : X) (lo hi mx : Option X)
  | sls (sz : Nat) (x : X) (lo hi mx : Option X)
  | slst (x : X) (lo hi : Option X)
  | s2a (n : Nat) (x : X)
  | new (ty : TypeId) (z : Zs)
  | box (ty : TypeId) (x : X)
  | bsl (ety : TypeId) (len sz : Nat) (z : Zs) (ps : List (Nat × Nat × X))
  | st (n : Nat) (a v : X)
  | app (ety : TypeId) (sz bytes : Nat) (z : Zs) (x y : X)
  | cpy (sz : Nat) (x y : X)
  | mks (ety : TypeId) (sz bytes : Nat) (z : Zs) (l c : X)
  | call (f : FuncId) (args : List X)
  | callv (x : X) (args : List X)
  | mm (top : Bool) (x y : X)
  deriving Inhabited

def trX : Operand → Option X
  | .tmp t => some (.t t)
  | .const v => (svOf v).map .c
  | .global g => some (.c (.ptr g 0))
  | .func f => some (.c (.fn f [] []))

theorem trX_eval {N : Nat} {e : Env} {a : Act} (h : Ag N e a) {x : Operand} {x' : X} {v : AV} (ht : trX x = some x') (hv : x'.ev e = some v) : a.eval x = v.conc := by
  cases x with
  | tmp t =>
    simp only [trX, Option.some.injEq] at ht
    subst ht
    have := h.get t v hv
    simp [Act.eval, this]
  | const c =>
    simp only [trX, Option.map_eq_some_iff] at ht
    obtain ⟨s, hs, rfl⟩ := ht
    simp only [X.ev, Option.some.injEq] at hv
    subst hv
    simp [Act.eval, svOf_spec hs, AV.conc]
  | global g =>
    simp only [trX, Option.some.injEq] at ht
    subst ht
    simp only [X.ev, Option.some.injEq] at hv
    subst hv
    rfl
  | func f =>
    simp only [trX, Option.some.injEq] at ht
    subst ht
    simp only [X.ev, Option.some.injEq] at hv
    subst hv
    rfl

/-- Operands of an optional bound. -/
def trO : Option Operand → Option (Option X)
  | none => some none
  | some x => (trX x).map some

/-- The number of cells of a type whose cells are all integers. -/
def intTy (P : Program) : Nat → TypeId → Option Nat
  | 0, _ => none
  | d + 1, t =>
    match P.underlying t, P.info? t with
    | some (.int _), some i => if i.size = 1 then some 1 else none
    | some (.array len e), some i => match intTy P d e, P.info? e with
      | some m, some j => if j.size = m ∧ i.size = len * m then some i.size else none
      | _, _ => none
    | _, _ => none

def sizeT (P : Program) (t : TypeId) : Option Nat := (P.info? t).map (·.size)

/-- The parts of a struct or an array that is built. -/
def trParts (place : Nat → Option (Nat × Nat)) (n : Nat) : List (Nat × Operand) → Option (List (Nat × Nat × X))
  | [] => some []
  | (i, x) :: l => do
    let (o, s) ← place i
    let x ← trX x
    let r ← trParts place n l
    if o + s ≤ n then some ((o, s, x) :: r) else none

def trI (P : Program) (ty : TypeId) : Op → Option I
  | .move x => do some (.mov (← trX x))
  | .assign x => do some (.mov (← trX x))
  | .pick c a b => do some (.pick (← trX c) (← trX a) (← trX b))
  | .build t ps => do
    let z ← zOf P t
    match ← P.underlying t with
    | .struct fs => do
      let places ← fs.toList.mapM (fun f => (P.info? f.type).map fun i => (f.offset, i.size))
      some (.build z.size z (← trParts (places.toArray[·]?) z.size ps.toList))
    | .array _ e => do
      let s ← sizeT P e
      some (.build z.size z (← trParts (fun i => some (i * s, s)) z.size ps.toList))
    | _ => none
  | .load t x => do some (.ld (← shOf P t) (← trX x))
  | .nilCheck x => do some (.ck (← trX x))
  | .binOp op t x y _ => do
    let x' ← trX x
    let y' ← trX y
    match ← P.underlying t with
    | .int _ | .string => some (.bin op x' y')
    | .bool => match op with
      | .eql => some (.beq false x' y')
      | .neq => some (.beq true x' y')
      | _ => none
    | .slice _ => match op, y' with
      | .eql, .c .nils => some (.snil false x')
      | .neq, .c .nils => some (.snil true x')
      | _, _ => none
    | .interface _ => match op, y with
      | .eql, .const .nilIface => some (.inil false x')
      | .neq, .const .nilIface => some (.inil true x')
      | _, _ => none
    | .array _ _ => do
      let n ← intTy P 5 t
      if P.eqGuardType P.depth t then none else
      match op with
      | .eql => some (.eqa false n x' y')
      | .neq => some (.eqa true n x' y')
      | _ => none
    | _ => none
  | .unOp op _ x => do some (.un op (← trX x))
  | .convert src dst x => do
    match ← P.underlying src, ← P.underlying dst with
    | .int _, .int k => some (.cv k (← trX x))
    | _, _ => none
  | .fieldAddr s x f => do
    let .struct fs ← P.underlying s | none
    let f ← fs[f]?
    let z ← sizeT P f.type
    if z = 0 then none else some (.fa f.offset (← trX x))
  | .field s x f => do
    let .struct fs ← P.underlying s | none
    let f ← fs[f]?
    some (.fl f.offset (← shOf P f.type) (← trX x))
  | .indexAddr t x i => do
    match ← P.underlying t with
    | .array len e => some (.ia len (← sizeT P e) (← trX x) (← trX i))
    | .slice e => some (.isl (← sizeT P e) (← trX x) (← trX i))
    | _ => none
  | .index t x i => do
    match ← P.underlying t with
    | .array len e => some (.ix len (← sizeT P e) (← shOf P e) (← trX x) (← trX i))
    | .string => some (.ss (← trX x) (← trX i))
    | _ => none
  | .extract x k => do some (.ex (← trX x) k)
  | .makeFunc (.func f) pre post => do some (.mkf f (← pre.toList.mapM trX) (← post.toList.mapM trX))
  | .slice t x lo hi mx => do
    match ← P.underlying t with
    | .array len e => some (.sla len (← sizeT P e) (← trX x) (← trO lo) (← trO hi) (← trO mx))
    | .slice e => some (.sls (← sizeT P e) (← trX x) (← trO lo) (← trO hi) (← trO mx))
    | .string => if mx.isSome then none else some (.slst (← trX x) (← trO lo) (← trO hi))
    | _ => none
  | .sliceToArrayPointer t x => do
    let .array n _ ← P.underlying t | none
    some (.s2a n (← trX x))
  | .alloc t => do some (.new t (← zOf P t))
  | .box t x => do some (.box t (← trX x))
  | .buildSlice t len ps => do
    let .slice e ← P.underlying t | none
    let z ← zOf P e
    let s ← sizeT P e
    if len * s > 2 ^ 24 ∨ s = 0 then none else
    some (.bsl e len s z (← trParts (fun i => some (i * s, s)) (len * s) ps.toList))
  | .store t a v => do some (.st (← sizeT P t) (← trX a) (← trX v))
  | .makeSlice t l c => do
    let .slice e ← P.underlying t | none
    let i ← P.info? e
    if i.size = 0 then none else
    some (.mks e i.size i.bytes (← zOf P e) (← trX l) (← trX c))
  | .call c => do
    let args ← c.args.toList.mapM trX
    match c.callee with
    | .value (.func f) => some (.call f args)
    | .value x => some (.callv (← trX x) args)
    | .builtin .len => do
      match ← P.underlying (← c.argTypes[0]?), args with
      | .string, [x] => some (.lens x)
      | .slice _, [x] => some (.len x)
      | .array n _, [_] => some (.lenc n)
      | _, _ => none
    | .builtin .append => do
      let t0 ← c.argTypes[0]?
      let t1 ← c.argTypes[1]?
      match ← P.underlying t0, ← P.underlying t1, args with
      | .slice e, .slice _, [x, y] => do
        let i ← P.info? e
        if i.size = 0 ∨ i.bytes = 0 then none else
        some (.app e i.size i.bytes (← zOf P e) x y)
      | _, _, _ => none
    | .builtin .copy => do
      match ← P.underlying (← c.argTypes[0]?), args with
      | .slice e, [x, y] => do some (.cpy (← sizeT P e) x y)
      | _, _ => none
    | .builtin .min => match args with
      | [x, y] => some (.mm false x y)
      | _ => none
    | .builtin .max => match args with
      | [x, y] => some (.mm true x y)
      | _ => none
    | _ => none
  | _ => none

/-! ### What the pure ones yield -/

def binI (op : BinOp) (k : IntKind) (a b : Int) (K : SV → Prop) : Prop :=
  match op with
  | .add => K (.int k (k.wrap (a + b)))
  | .sub => K (.int k (k.wrap (a - b)))
  | .mul => K (.int k (k.wrap (a * b)))
  | .quo => b ≠ 0 ∧ K (.int k (k.wrap (a.tdiv b)))
  | .rem => b ≠ 0 ∧ K (.int k (a.tmod b))
  | .and => K (.int k (k.wrap (BitVec.ofInt k.bits a &&& BitVec.ofInt k.bits b).toNat))
  | .or => K (.int k (k.wrap (BitVec.ofInt k.bits a ||| BitVec.ofInt k.bits b).toNat))
  | .xor => K (.int k (k.wrap (BitVec.ofInt k.bits a ^^^ BitVec.ofInt k.bits b).toNat))
  | .eql => K (.bool (a == b))
  | .neq => K (.bool (a != b))
  | .lss => K (.bool (decide (a < b)))
  | .leq => K (.bool (decide (a ≤ b)))
  | .gtr => K (.bool (decide (a > b)))
  | .geq => K (.bool (decide (a ≥ b)))
  | _ => False

def binS (op : BinOp) (x y : SV) (K : SV → Prop) : Prop :=
  match x, y with
  | .int k a, .int k' b =>
    match op with
    | .shl => 0 ≤ b ∧ K (.int k (k.wrap (a * 2 ^ (min b.toNat k.bits))))
    | .shr => 0 ≤ b ∧ K (.int k (a.fdiv (2 ^ (min b.toNat k.bits))))
    | op => k = k' ∧ binI op k a b K
  | .str a, .str b =>
    match op with
    | .add => a.size + b.size ≤ 9223372036854775807 ∧ K (.str (a ++ b))
    | .eql => K (.bool (a.toList == b.toList))
    | .neq => K (.bool (!(a.toList == b.toList)))
    | .lss => K (.bool (Op.bytesLess a.toList b.toList))
    | .leq => K (.bool (Op.bytesLess a.toList b.toList || (a.toList == b.toList)))
    | .gtr => K (.bool (!(Op.bytesLess a.toList b.toList || (a.toList == b.toList))))
    | .geq => K (.bool (!(Op.bytesLess a.toList b.toList)))
    | _ => False
  | _, _ => False

def ldV (m : Option Nat) (k : Blk) (off : Nat) (K : AV → Prop) : Prop :=
  match m with
  | none => off < k.size ∧ K (.s (k.c off))
  | some z => off + z ≤ k.size ∧ K (.arr z (fun j => k.c (off + j)))

def partV (m : Option Nat) (n : Nat) (c : Nat → SV) (off : Nat) (K : AV → Prop) : Prop :=
  match m with
  | none => off < n ∧ K (.s (c off))
  | some z => off + z ≤ n ∧ K (.arr z (fun j => c (off + j)))

def placeAll (e : Env) : List (Nat × Nat × X) → (Nat → SV) → Option (Nat → SV)
  | [], c => some c
  | (o, sz, x) :: l, c => match x.ev e with
    | some (.s v) => match sz with
      | 1 => placeAll e l (put1 c o v)
      | _ => none
    | some (.arr m d) => match Nat.beq m sz with
      | true => placeAll e l (splice c o m d)
      | false => none
    | _ => none

def svs (e : Env) : List X → Option (List SV)
  | [] => some []
  | x :: l => match x.ev e, svs e l with
    | some (.s v), some r => some (v :: r)
    | _, _ => none

/-- The equality of n cells that are integers. -/
def ceq (n : Nat) (c d : Nat → SV) : Bool := (List.range n).all fun i => match c i, d i with
  | .int _ a, .int _ b => a == b
  | _, _ => false
def cInt (n : Nat) (c d : Nat → SV) : Prop := ∀ i, i < n → ∃ k a b, c i = .int k a ∧ d i = .int k b

/-- A bound of a slice expression. -/
def bndV (e : Env) (x : Option X) (dflt most : Nat) (K : Nat → Prop) : Prop :=
  match x with
  | none => K dflt
  | some x => match x.ev e with
    | some (.s (.int _ i)) => (0 ≤ i ∧ i ≤ most) ∧ K i.toNat
    | _ => False

/-- Cells that are only read. -/
def ldR (m : Option Nat) (b off : Nat) (K : AV → Prop) : Prop :=
  match m with
  | none => ∃ v, BW.cell b off = some v ∧ K (.s v)
  | some z => ∃ c, (∀ i, i < z → BW.cell b (off + i) = some (c i)) ∧ K (.arr z c)

def PV (i : I) (e : Env) (H : Hp) (K : AV → Prop) : Prop :=
  match i with
  | .mov x => match x.ev e with
    | some v => K v
    | none => False
  | .pick c a b => match c.ev e with
    | some (.s (.bool t)) => match (if t then a.ev e else b.ev e) with
      | some v => K v
      | none => False
    | _ => False
  | .build n z ps => match placeAll e ps z.c with
    | some c => K (.arr n c)
    | none => False
  | .ld m x => match x.ev e with
    | some (.s (.ptr b off)) => match H.get b with
      | some k => ldV m k off K
      | none => ldR m b off K
    | _ => False
  | .ck x => match x.ev e with
    | some (.s (.ptr b off)) => K (.s (.ptr b off))
    | _ => False
  | .bin op x y => match x.ev e, y.ev e with
    | some (.s u), some (.s v) => binS op u v fun r => K (.s r)
    | _, _ => False
  | .beq neg x y => match x.ev e, y.ev e with
    | some (.s (.bool u)), some (.s (.bool v)) => K (.s (.bool (if neg then !(u == v) else (u == v))))
    | _, _ => False
  | .snil neg x => match x.ev e with
    | some (.s .nils) => K (.s (.bool (!neg)))
    | some (.s (.slc _ _ _ _)) => K (.s (.bool neg))
    | _ => False
  | .inil neg x => match x.ev e with
    | some (.s .nilifc) => K (.s (.bool (!neg)))
    | some (.s (.ifc _ _)) => K (.s (.bool neg))
    | _ => False
  | .eqa neg n x y => match x.ev e, y.ev e with
    | some (.arr n1 c), some (.arr n2 d) => (n1 = n ∧ n2 = n) ∧ cInt n c d ∧ K (.s (.bool (if neg then !(ceq n c d) else ceq n c d)))
    | _, _ => False
  | .un op x => match op, x.ev e with
    | .not, some (.s (.bool b)) => K (.s (.bool (!b)))
    | .neg, some (.s (.int k a)) => K (.s (.int k (k.wrap (0 - a))))
    | _, _ => False
  | .cv k x => match x.ev e with
    | some (.s (.int _ a)) => K (.s (.int k (k.wrap a)))
    | _ => False
  | .fa off x => match x.ev e with
    | some (.s (.ptr b o)) => K (.s (.ptr b (o + off)))
    | _ => False
  | .fl off m x => match x.ev e with
    | some (.arr n c) => partV m n c off K
    | _ => False
  | .ia len sz x i => match x.ev e, i.ev e with
    | some (.s (.ptr b o)), some (.s (.int _ j)) => (0 ≤ j ∧ j < (len : Int)) ∧ K (.s (.ptr b (o + j.toNat * sz)))
    | _, _ => False
  | .isl sz x i => match x.ev e, i.ev e with
    | some (.s (.slc b o l _)), some (.s (.int _ j)) => (0 ≤ j ∧ j < (l : Int)) ∧ K (.s (.ptr b (o + j.toNat * sz)))
    | _, _ => False
  | .ix len sz m x i => match x.ev e, i.ev e with
    | some (.arr n c), some (.s (.int _ j)) => (0 ≤ j ∧ j < (len : Int)) ∧ partV m n c (j.toNat * sz) K
    | _, _ => False
  | .ss x i => match x.ev e, i.ev e with
    | some (.s (.str s)), some (.s (.int _ j)) => 0 ≤ j ∧ ∃ h : j.toNat < s.size, K (.s (.int .u8 (s[j.toNat]).toNat))
    | _, _ => False
  | .ex x k => match x.ev e with
    | some (.tup l) => match l[k]? with
      | some v => K v
      | none => False
    | _ => False
  | .mkf f pre post => match svs e pre, svs e post with
    | some a, some b => K (.s (.fn f a b))
    | _, _ => False
  | .len x => match x.ev e with
    | some (.s (.slc _ _ l _)) => K (.s (.int .i64 l))
    | some (.s .nils) => K (.s (.int .i64 0))
    | _ => False
  | .lens x => match x.ev e with
    | some (.s (.str s)) => K (.s (.int .i64 s.size))
    | _ => False
  | .lenc n => K (.s (.int .i64 n))
  | .mm top x y => match x.ev e, y.ev e with
    | some (.s (.int k a)), some (.s (.int _ b)) => K (.s (.int k (if top then (if b > a then b else a) else (if b < a then b else a))))
    | _, _ => False
  | .sla len sz x lo hi mx => match x.ev e with
    | some (.s (.ptr b o)) => bndV e mx len len fun m => bndV e hi len m fun h => (mx.isSome → hi.isSome) ∧ bndV e lo 0 h fun l =>
        K (.s (.slc b (if m = l then o else o + l * sz) (h - l) (m - l)))
    | _ => False
  | .sls sz x lo hi mx => match x.ev e with
    | some (.s (.slc b o len cap)) => bndV e mx cap cap fun m => bndV e hi len m fun h => (mx.isSome → hi.isSome) ∧ bndV e lo 0 h fun l =>
        K (.s (.slc b (if m = l then o else o + l * sz) (h - l) (m - l)))
    | some (.s .nils) => bndV e mx 0 0 fun m => bndV e hi 0 m fun h => (mx.isSome → hi.isSome) ∧ bndV e lo 0 h fun l => K (.s .nils)
    | _ => False
  | .slst x lo hi => match x.ev e with
    | some (.s (.str s)) => bndV e hi s.size s.size fun h => bndV e lo 0 h fun l => K (.s (.str (s.extract l h)))
    | _ => False
  | .s2a n x => match x.ev e with
    | some (.s (.slc b o l _)) => n ≤ l ∧ K (.s (.ptr b o))
    | _ => False
  | _ => False

end Go.V
