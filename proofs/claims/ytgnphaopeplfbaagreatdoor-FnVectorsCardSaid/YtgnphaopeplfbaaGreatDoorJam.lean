/- Arguments of numbers alone, all of them 0, can be read: witnesses of laws with great arguments, by law and not by a run. -/
import Derived.Test.YtgnphaopeplfbaaGreatDoorJal
import Derived.Carry
import Derived.KernelRfl
import Derived.Test.YtgnphaopeplfbaaGreatDoorProg
import Derived.Test.YtgnphaopeplfbaaGreatDoorJah
import Derived.Test.YtgnphaopeplfbaaGreatDoorJaj
import Derived.Test.YtgnphaopeplfbaaGreatDoorJak
set_option linter.unusedSectionVars false
set_option linter.unusedVariables false
set_option linter.unusedSimpArgs false
namespace Go.V
open Go.RowKit Go.ChangeShapes Go.WideShapes Go.ChangeAt
set_option linter.unusedSimpArgs false
set_option linter.unusedVariables false

section
variable {H : Type} {enc : TypeId × Value → H} {P : Program}

def zeroV (k : IntKind) : Value := .int k 0
theorem zero_wf (k : IntKind) : (Lit.int k 0).wf = true := by cases k <;> rfl

/-- Readings that weigh nothing. -/
def AllW (P : Program) : List TypeId → List (DataW H) → Prop
  | [], [] => True
  | t :: ts, d :: ds => d.weights P t = [] ∧ AllW P ts ds
  | _, _ => False
theorem AllW.each : ∀ {ts : List TypeId} {ds : List (DataW H)}, AllW P ts ds → DataW.weightsEach P ts ds = []
  | [], [], _ => by simp [DataW.weightsEach]
  | t :: ts, d :: ds, h => by simp [DataW.weightsEach, h.1, AllW.each h.2]
  | [], _ :: _, h => h.elim
  | _ :: _, [], h => h.elim
theorem AllW.all {e : TypeId} : ∀ {ts : List TypeId} {ds : List (DataW H)}, (∀ t ∈ ts, t = e) → AllW P ts ds → DataW.weightsAll P e ds = []
  | [], [], _, _ => by simp [DataW.weightsAll]
  | t :: ts, d :: ds, ht, h => by
    have e1 := ht t (by simp)
    subst e1
    simp [DataW.weightsAll, h.1, AllW.all (fun u hu => ht u (by simp [hu])) h.2]
  | [], _ :: _, _, h => h.elim
  | _ :: _, [], _, h => h.elim

theorem flatPs_zero {g : TypeId → Option (List IntKind)} {fuel : Nat}
    (hg : ∀ t ks, g t = some ks → P.cellsOf t = ks.length → ∃ D : DataW H, D.weights P t = [] ∧ ∀ w base sp held, DataW.trod enc P w base sp held fuel t (ks.map zeroV) = some (D, [])) :
    ∀ (ps : List (TypeId × Nat)) (pre r : List IntKind), flatPs P g ps pre.length = some r →
      ∃ xs : List (DataW H × List MemPlace), xs.flatMap (·.2) = [] ∧ AllW P (ps.map (·.1)) (xs.map (·.1)) ∧
        ∀ w base sp held, ps.mapM (fun p => DataW.trod enc P w base sp held fuel p.1 ((((pre ++ r).map zeroV).drop p.2).take (P.cellsOf p.1))) = some xs
  | [], pre, r, hr => by
    refine ⟨[], rfl, trivial, fun w base sp held => by simp⟩
  | p :: ps, pre, r, hr => by
    simp only [flatPs, Option.bind_eq_some_iff] at hr
    obtain ⟨ks, hks, r', hr', hif⟩ := hr
    split at hif
    case isFalse => cases hif
    case isTrue hp =>
    cases hif
    obtain ⟨D, hD, hT⟩ := hg p.1 ks hks hp.2
    obtain ⟨xs, h1, h2, h3⟩ := flatPs_zero hg ps (pre ++ ks) r' (by rw [List.length_append]; exact hr')
    refine ⟨(D, []) :: xs, by simp [h1], ⟨hD, h2⟩, fun w base sp held => ?_⟩
    have e1 : (((pre ++ (ks ++ r')).map zeroV).drop p.2).take (P.cellsOf p.1) = ks.map zeroV := by
      rw [hp.1, hp.2, ← List.map_drop, ← List.map_take, List.drop_left', List.take_left'] <;> rfl
    rw [List.mapM_cons, e1, hT]
    have := h3 w base sp held
    rw [List.append_assoc] at this
    rw [this]
    rfl

theorem flat_zero : ∀ (d : Nat) {t : TypeId} {ks : List IntKind}, flatK P d t = some ks → P.cellsOf t = ks.length →
    ∃ D : DataW H, D.weights P t = [] ∧ ∀ w base sp held, DataW.trod enc P w base sp held d t (ks.map zeroV) = some (D, [])
  | 0, t, ks, h, _ => by simp [flatK] at h
  | d + 1, t, ks, h, hl => by
    rw [flatK] at h
    split at h
    case h_1 k hu =>
      cases h
      exact ⟨.lit (.int k 0), by simp [DataW.weights], fun w base sp held => by simp [DataW.trod, hu, zeroV, zero_wf]⟩
    case h_2 n e hu =>
      obtain ⟨xs, h1, h2, h3⟩ := flatPs_zero (H := H) (enc := enc) (fuel := d) (fun t ks h1 h2 => flat_zero d h1 h2) _ [] ks h
      refine ⟨.agg (xs.map (·.1)), ?_, fun w base sp held => ?_⟩
      · simp only [DataW.weights, hu]
        exact AllW.all (fun t ht => by simp at ht; exact ht.2.symm) h2
      · conv => lhs; unfold DataW.trod
        rw [hu]
        simp only [List.length_map, hl, if_true]
        have := h3 w base sp held
        rw [mapM_mapO (fun i => (e, i * P.cellsOf e)) (fun p => DataW.trod enc P w base sp held d p.1 ((((([] : List IntKind) ++ ks).map zeroV).drop p.2).take (P.cellsOf p.1)))] at this
        rw [List.nil_append] at this
        rw [this]
        simp [h1]
    case h_3 fs hu =>
      obtain ⟨xs, h1, h2, h3⟩ := flatPs_zero (H := H) (enc := enc) (fuel := d) (fun t ks h1 h2 => flat_zero d h1 h2) _ [] ks h
      refine ⟨.agg (xs.map (·.1)), ?_, fun w base sp held => ?_⟩
      · simp only [DataW.weights, hu]
        rw [List.map_map] at h2
        exact AllW.each h2
      · conv => lhs; unfold DataW.trod
        rw [hu]
        simp only [List.length_map, hl, if_true]
        have := h3 w base sp held
        rw [mapM_mapO (fun f : Field => (f.type, f.offset)) (fun p => DataW.trod enc P w base sp held d p.1 ((((([] : List IntKind) ++ ks).map zeroV).drop p.2).take (P.cellsOf p.1)))] at this
        rw [List.nil_append] at this
        rw [this]
        simp [h1]
    case h_4 => cases h

def eqKs (P : Program) : List TypeId → List IntKind → Bool
  | [], [] => true
  | u :: us, k :: ks => (match P.underlying u with | some (.int k') => decide (k' = k) | _ => false) && eqKs P us ks
  | _, _ => false
/-- The cells of a type are numbers of these kinds. -/
def ctOk (P : Program) (t : TypeId) (ks : List IntKind) : Bool :=
  match P.cellTypes P.depth t with
  | some ts => eqKs P ts ks
  | none => false
theorem eqKs_get : ∀ {us : List TypeId} {ks : List IntKind}, eqKs P us ks = true → us.length = ks.length ∧ ∀ (i : Nat) (k : IntKind), ks[i]? = some k → ∃ u, us[i]? = some u ∧ P.underlying u = some (.int k)
  | [], [], _ => ⟨rfl, fun i k h => by simp at h⟩
  | u :: us, k :: ks, h => by
    rw [eqKs, Bool.and_eq_true] at h
    obtain ⟨h1, h2⟩ := h
    obtain ⟨e1, e2⟩ := eqKs_get h2
    refine ⟨by simp [e1], fun i k' hi => ?_⟩
    cases i with
    | zero =>
      simp at hi; subst hi
      refine ⟨u, rfl, ?_⟩
      split at h1
      · rename_i k2 hu; rw [hu]; rw [of_decide_eq_true h1]
      · cases h1
    | succ i => exact e2 i k' (by simpa using hi)
  | [], _ :: _, h => by simp [eqKs] at h
  | _ :: _, [], h => by simp [eqKs] at h

/-- An argument that any world reads alike, and that weighs nothing. -/
structure FA (enc : TypeId × Value → H) (P : Program) (t : TypeId) (v : Value) : Prop where
  tr : ∃ D : DataW H, D.weights P t = [] ∧ ∀ w base sp held, DataW.Trod enc P w base sp held t v D []
  ok : ∀ w base, Value.okWide P w .any base t v

theorem FA.flat (d : Nat) {t : TypeId} {ks : List IntKind} (hk : flatK P d t = some ks) (ha : isAgg P t = true) (hl : P.cellsOf t = ks.length) (hc : ctOk P t ks = true) (h0 : 0 < ks.length) : FA enc P t (.agg (ks.map zeroV).toArray) where
  tr := by
    obtain ⟨D, h1, h2⟩ := flat_zero (H := H) (enc := enc) d hk hl
    exact ⟨D, h1, fun w base sp held => ⟨d, h2 w base sp held⟩⟩
  ok := fun w base => by
    have hR : Row.okWide P w .any base t (ks.map zeroV).toArray := by
      unfold ctOk at hc
      split at hc
      case h_2 => cases hc
      case h_1 ts hts =>
      obtain ⟨e1, e2⟩ := eqKs_get hc
      refine ⟨ts, hts, ⟨1, by simp [e1]⟩, fun i v hv => ?_⟩
      simp only [List.getElem?_toArray, List.getElem?_map, Option.map_eq_some_iff] at hv
      obtain ⟨k, hk, rfl⟩ := hv
      have hi : i < ks.length := by
        rcases Nat.lt_or_ge i ks.length with h | h
        · exact h
        · rw [List.getElem?_eq_none_iff.2 h] at hk; cases hk
      obtain ⟨u, hu1, hu2⟩ := e2 i k hk
      refine ⟨u, by rw [Nat.mod_eq_of_lt (by omega)]; exact hu1, ?_⟩
      unfold Cell.okWide Cell.ok
      rw [hu2]
      exact ⟨rfl, by cases k <;> exact ⟨by decide, by decide⟩⟩
    unfold Value.okWide
    unfold isAgg at ha
    split at ha
    case h_1 hu => rw [hu]; exact ⟨_, rfl, by simp [hl], hR⟩
    case h_2 hu => rw [hu]; exact ⟨_, rfl, by simp [hl], hR⟩
    case h_3 => cases ha

theorem FA.int {t : TypeId} {k : IntKind} (hu : P.underlying t = some (.int k)) : FA enc P t (.int k 0) where
  tr := ⟨.lit (.int k 0), by simp [DataW.weights], fun w base sp held => ⟨1, by simp [DataW.trod, hu, Value.cells, zero_wf]⟩⟩
  ok := fun w base => by
    unfold Value.okWide
    rw [hu]
    unfold Cell.okWide Cell.ok
    rw [hu]
    exact ⟨rfl, by cases k <;> exact ⟨by decide, by decide⟩⟩

def FAs (enc : TypeId × Value → H) (P : Program) : List TypeId → List Value → Prop
  | [], [] => True
  | t :: ts, v :: vs => FA enc P t v ∧ FAs enc P ts vs
  | _, _ => False
theorem FAs.trod : ∀ {ts : List TypeId} {vs : List Value}, FAs enc P ts vs → ∃ ds : List (DataW H), AllW P ts ds ∧ ∀ w base sp held, DataW.TrodAll enc P w base sp held ts vs ds []
  | [], [], _ => ⟨[], trivial, fun _ _ _ _ => rfl⟩
  | t :: ts, v :: vs, h => by
    obtain ⟨D, h1, h2⟩ := h.1.tr
    obtain ⟨ds, h3, h4⟩ := FAs.trod h.2
    exact ⟨D :: ds, ⟨h1, h3⟩, fun w base sp held => ⟨[], [], h2 _ _ _ _, h4 _ _ _ _, rfl⟩⟩
  | [], _ :: _, h => h.elim
  | _ :: _, [], h => h.elim
theorem FAs.len : ∀ {ts : List TypeId} {vs : List Value}, FAs enc P ts vs → vs.length = ts.length
  | [], [], _ => rfl
  | t :: ts, v :: vs, h => by simp [FAs.len h.2]
  | [], _ :: _, h => h.elim
  | _ :: _, [], h => h.elim
theorem FAs.get : ∀ {ts : List TypeId} {vs : List Value}, FAs enc P ts vs → ∀ (j : Nat) t v, ts[j]? = some t → vs[j]? = some v → FA enc P t v
  | [], [], _, j, t, v, h1, _ => by simp at h1
  | t :: ts, v :: vs, h, j, t', v', h1, h2 => by
    cases j with
    | zero => simp at h1 h2; subst h1; subst h2; exact h.1
    | succ j => exact FAs.get h.2 j t' v' (by simpa using h1) (by simpa using h2)
  | [], _ :: _, h, _, _, _, _, _ => h.elim
  | _ :: _, [], h, _, _, _, _, _ => h.elim

theorem flat_witness {C : Checked} {os : Os} {f : FuncId} {fn : Func} {s : ChangeSpec} {conds : List PathCond} (args : Array Value)
    (hv : (World.plainHolding C.prog os ⟨#[], args, []⟩).variablesB C.prog = true)
    (hr : ((World.plainHolding C.prog os ⟨#[], args, []⟩).heap.toList.drop C.prog.globals.size).take ((begin C.prog (fun _ _ => 0) default).world.heap.size - C.prog.globals.size) =
      (begin C.prog (fun _ _ => 0) default).world.heap.toList.drop C.prog.globals.size)
    (hA : FAs enc C.prog fn.params.toList args.toList) (hfn : C.prog.funcs[f]? = some fn) (hi : C.prog.inits.idxOf? f = none) (hb : fn.body.isSome = true) (ho : fn.ours = false) (hn : fn.nfree = 0)
    (hs : s.vars = []) (hvt : (OpenSpec.ofChange s).bare.plain.varTypes C.prog = []) (hp : C.prog.platform = "linux/amd64/v1") (hc : conds = []) :
    ∃ (w : World) (tape : Tape) (i : Input), w.os = os ∧ (w.forCall tape i).Shaped C.prog ∧ i.vars = [] ∧ Input.okWide C.prog (w.forCall tape i) .any w.heap.size f i ∧
      s.pre6 enc C.prog fn conds false (w.forCall tape i).memory i.args ∧ ({} : Assume).holds C.prog (lone (Frame.enter C.prog f i.args .normal) [] (w.forCall tape i)) := by
  obtain ⟨ds, hW, hT⟩ := hA.trod
  have hWh : ∀ w : World, DataW.Whole enc C.prog fn.params.toList s.vars false w args.toList ds [] [] := fun w =>
    ⟨[], [], hT _ _ _ _, by rw [hs]; rfl, rfl, fun b off h => by simp at h, fun h => by cases h⟩
  refine ⟨World.holding C.prog os ⟨#[], args, []⟩, fun _ _ => 0, ⟨#[], args, []⟩, rfl, World.shaped_of_B hv hr, rfl, ⟨fun o ho => by simp at ho, fun g hg => by simp at hg, hi, fn, hfn, hb, ho, hn, ?_, fun j t v h1 h2 => ?_⟩, ⟨⟨ds, [], [], hWh _, by rw [hc]; rfl⟩, hp, ds, [], [], hWh _, ?_⟩, ?_⟩
  · have := hA.len
    simpa using this
  · exact (hA.get j t v (by simpa using h1) (by simpa using h2)).ok _ _
  · rw [hvt, List.append_nil, List.append_nil, AllW.each hW]; rfl
  · simp only [Assume.holds]
    exact ⟨by simp, by simp, by simp, by simp, by simp⟩
end
end Go.V

/- Arguments that are slices of rows of bytes: what is known of their cells, and the step from a contract to a law. -/
namespace Go.V
variable [BW]
open Go.RowKit Go.ChangeShapes Go.WideShapes Go.ChangeAt
set_option linter.unusedSimpArgs false
set_option linter.unusedVariables false
/-- A slice of len rows of z bytes, in memory that is only read, below place m. -/
def RA [BW] (m z : Nat) (sv : SV) (len : Nat) (f : Nat → Int) : Prop :=
  (sv = .nils ∧ len = 0) ∨ ∃ b o cap, sv = .slc b o len cap ∧ len ≤ cap ∧ b < m ∧ ∀ i, i < z * len → BW.cell b (o + i) = some (.int .u8 (f i))

theorem law_walkR {P : Program} {f : FuncId} {args : List AV} (I : BW) (W : World) (hI : ∀ b off v, I.cell b off = some v → W.cell? ⟨b, off, none⟩ = some v.conc)
    (h : @FnS I P f args [] W.heap.size (fun v H' _ => v = .s (.bool true) ∧ H' = [])) :
    Calls P f (AV.concs args).toArray W fun e w' => e = .returned (.bool true) ∧ Below W.heap.size W w' ∧ (∀ a, a.block < W.heap.size → w'.frozen? a = W.frozen? a) := by
  refine (h.2 W W (Mem.start W hI)).mono ?_
  rintro e w' ⟨v, H', n', rfl, hn, hm, rfl, rfl⟩
  exact ⟨rfl, hm.below, hm.frz⟩

section
variable {H : Type} {enc : TypeId × Value → H} {P : Program}

theorem mapM_get {α β : Type} {g : α → Option β} : ∀ {l : List α} {r : List β}, l.mapM g = some r → r.length = l.length ∧ ∀ (i : Nat) a, l[i]? = some a → ∃ b, r[i]? = some b ∧ g a = some b
  | [], r, h => by simp at h; subst h; exact ⟨rfl, fun i a h => by simp at h⟩
  | a :: l, r, h => by
    rw [List.mapM_cons] at h
    simp only [bind, pure, Option.bind_eq_some_iff, Option.some.injEq] at h
    obtain ⟨b, hb, r', hr, rfl⟩ := h
    obtain ⟨e1, e2⟩ := mapM_get hr
    refine ⟨by simp [e1], fun i x hx => ?_⟩
    cases i with
    | zero => simp at hx; subst hx; exact ⟨b, rfl, hb⟩
    | succ i => exact e2 i x (by simpa using hx)

/-- The row of bytes at a place of the world. -/
noncomputable def cellB (W : World) (b o i : Nat) : Int := match W.cell? ⟨b, o + i, none⟩ with
  | some (.int _ x) => x
  | _ => 0

theorem open_rows (d : Nat) {t e : TypeId} {z : Nat} {W : World} {b0 : Nat} {v : Value} {D : DataW H} {ps : List MemPlace} (ht : P.underlying t = some (.slice e)) (hk : flatK P d e = some (List.replicate z .u8)) (hc : P.cellsOf e = z) (hz : 0 < z)
    (hval : Value.okWide P W .any b0 t v) (hd : DataW.Trod enc P W 0 (fun _ => true) true t v D ps) :
    ∃ (I : BW) (sv : SV) (len : Nat) (f : Nat → Int), v = sv.conc ∧ (∀ b off x, I.cell b off = some x → W.cell? ⟨b, off, none⟩ = some x.conc) ∧ @RA I W.heap.size z sv len f ∧ (∀ i, i < z * len → 0 ≤ f i ∧ f i ≤ 255) ∧ len ≤ 9223372036854775807 := by
  obtain ⟨a0, len0, cap0, rfl⟩ := okWide_slice ht hval
  obtain ⟨fuel, hf⟩ := hd
  rcases DataW.trod_slice ht hf with ⟨hcs, _⟩ | ⟨a, len, cap, elems, rest, n, rfl, hcs, _, _, hl, hm, hlen, hel, _, _⟩
  · simp only [Value.cells, List.cons.injEq, Value.slice.injEq, and_true] at hcs
    obtain ⟨rfl, rfl, rfl⟩ := hcs
    exact ⟨noBW, .nils, 0, fun _ => 0, rfl, (fun b off x h => by cases h), .inl ⟨rfl, rfl⟩, (fun i hi => by omega), by omega⟩
  · simp only [Value.cells, List.cons.injEq, Value.slice.injEq, and_true] at hcs
    obtain ⟨rfl, rfl, rfl⟩ := hcs
    have hs : a.spot = none ∧ a.block < W.heap.size := by
      unfold Value.okWide at hval
      rw [ht] at hval
      simp only [Cell.okWide, ht, Cell.ok] at hval
      obtain ⟨_, _, _, h1, row, cells, h2, _⟩ := hval
      refine ⟨h1, ?_⟩
      unfold World.shape? at h2
      cases hh : W.heap[a.block]? with
      | none => rw [hh] at h2; simp at h2
      | some o => exact (Array.getElem?_eq_some_iff.1 hh).1
    obtain ⟨b, o, spot⟩ := a
    obtain ⟨rfl, hb⟩ := hs
    have key : ∀ i, i < z * len0 → W.cell? ⟨b, o + i, none⟩ = some (.int .u8 (cellB W b o i)) ∧ 0 ≤ cellB W b o i ∧ cellB W b o i ≤ 255 := by
      intro i hi
      have hq : i / z < len0 := Nat.div_lt_of_lt_mul hi
      have he := hel (i / z) hq
      rw [List.getElem?_eq_getElem (by omega : i / z < elems.length)] at he
      simp only [Option.bind_eq_some_iff] at he
      obtain ⟨cs, hcs, htr⟩ := he
      rw [hc] at hcs
      unfold World.cells? at hcs
      rw [if_pos (by omega)] at hcs
      obtain ⟨e1, e2⟩ := mapM_get hcs
      rw [List.length_range] at e1
      obtain ⟨a1, _, _⟩ := flatK_sound d hk (by rw [e1, List.length_replicate]) htr
      have hr : i % z < z := Nat.mod_lt _ hz
      obtain ⟨x, hx, hw⟩ := a1 (i % z) .u8 (by rw [List.getElem?_replicate, if_pos hr])
      obtain ⟨y, hy, hg⟩ := e2 (i % z) (i % z) (by simp [hr])
      rw [hy] at hx
      cases hx
      rw [addr_add, addr_add, Nat.mul_comm (i / z) z, Nat.add_assoc, Nat.div_add_mod] at hg
      have ec : cellB W b o i = x := by unfold cellB; rw [hg]
      rw [ec]
      refine ⟨hg, ?_⟩
      simp only [Lit.wf, Bool.and_eq_true, decide_eq_true_eq] at hw
      exact hw
    refine ⟨⟨fun b' off => if b' = b ∧ o ≤ off ∧ off < o + z * len0 then some (.int .u8 (cellB W b o (off - o))) else none⟩, .slc b o len0 cap0, len0, cellB W b o, rfl, fun b' off x h => ?_, .inr ⟨b, o, cap0, rfl, hl, hb, fun i hi => ?_⟩, fun i hi => (key i hi).2, by unfold maxLen at hm; omega⟩
    · (try dsimp only at h)
      split at h
      · rename_i hc'
        obtain ⟨rfl, h1, h2⟩ := hc'
        cases h
        have := (key (off - o) (by omega)).1
        rwa [show o + (off - o) = off by omega] at this
      · cases h
    · show (if b = b ∧ o ≤ o + i ∧ o + i < o + z * len0 then some (SV.int .u8 (cellB W b o (o + i - o))) else none) = _
      rw [if_pos ⟨rfl, by omega, by omega⟩, Nat.add_sub_cancel_left]

theorem FA.nils {t e : TypeId} (ht : P.underlying t = some (.slice e)) : FA enc P t (.slice none 0 0) where
  tr := ⟨.nil, by simp [DataW.weights], fun w base sp held => ⟨1, by simp [DataW.trod, ht, Value.cells]⟩⟩
  ok := fun w base => by
    unfold Value.okWide
    rw [ht]
    simp [Cell.okWide, ht, Cell.ok]
end
end Go.V

/- The rules and the program. -/
