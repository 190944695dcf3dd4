/- From a contract to a law: what a walk from an empty list of blocks says of the world, and arguments that are made of numbers alone. -/
import Derived.Test.YtdellpnmbgjofaaVF
import Derived.WalkKit
import Derived.ProofKit
import Derived.OpenShut
namespace Go.V
open Go.RowKit Go.ChangeShapes Go.WideShapes Go.ChangeAt
set_option linter.unusedSimpArgs false
set_option linter.unusedVariables false

theorem law_walk {P : Program} {f : FuncId} {args : List AV} (h : ∀ n, FnS P f args [] n (fun v H' _ => v = .s (.bool true) ∧ H' = [])) (W : World) :
    Calls P f (AV.concs args).toArray W fun e w' => e = .returned (.bool true) ∧ Below W.heap.size W w' ∧ (∀ a, w'.frozen? a = W.frozen? a) := by
  refine ((h W.heap.size).2 W W (Mem.start W)).mono ?_
  rintro e w' ⟨v, H', n', rfl, hn, hm, rfl, rfl⟩
  exact ⟨rfl, hm.below, hm.frz⟩

/-! ### Values made of numbers alone -/
def flatPs (P : Program) (g : TypeId → Option (List IntKind)) : List (TypeId × Nat) → Nat → Option (List IntKind)
  | [], _ => some []
  | p :: ps, o => (g p.1).bind fun ks => (flatPs P g ps (o + ks.length)).bind fun r => if p.2 = o ∧ P.cellsOf p.1 = ks.length then some (ks ++ r) else none

def flatK (P : Program) : Nat → TypeId → Option (List IntKind)
  | 0, _ => none
  | d + 1, t =>
    match P.underlying t with
    | some (.int k) => some [k]
    | some (.array n e) => flatPs P (flatK P d) ((List.range n).map fun i => (e, i * P.cellsOf e)) 0
    | some (.struct fs) => flatPs P (flatK P d) (fs.toList.map fun f => (f.type, f.offset)) 0
    | _ => none

section
variable {H : Type} {enc : TypeId × Value → H} {P : Program}

/-- The cells are numbers of these kinds, the places are none, and the reading needs no world. -/
def FlatR (enc : TypeId × Value → H) (P : Program) (t : TypeId) (ks : List IntKind) (fuel : Nat) (cs : List Value) (x : DataW H × List MemPlace) : Prop :=
  (∀ (i : Nat) (k : IntKind), ks[i]? = some k → ∃ z, cs[i]? = some (Value.int k z) ∧ (Lit.int k z).wf = true) ∧ x.2 = [] ∧ ∀ w base sp held, DataW.trod enc P w base sp held fuel t cs = some x

theorem flatPs_sound {g : TypeId → Option (List IntKind)} {w : World} {base : Nat} {sp : Nat → Bool} {held : Bool} {fuel : Nat}
    (hg : ∀ t ks cs x, g t = some ks → cs.length = ks.length → DataW.trod enc P w base sp held fuel t cs = some x → FlatR enc P t ks fuel cs x) (cs : List Value) :
    ∀ (ps : List (TypeId × Nat)) (o : Nat) (r : List IntKind) (xs : List (DataW H × List MemPlace)), flatPs P g ps o = some r → o + r.length ≤ cs.length →
      ps.mapM (fun p => DataW.trod enc P w base sp held fuel p.1 ((cs.drop p.2).take (P.cellsOf p.1))) = some xs →
      (∀ (i : Nat) (k : IntKind), r[i]? = some k → ∃ z, cs[o + i]? = some (Value.int k z) ∧ (Lit.int k z).wf = true) ∧ xs.flatMap (·.2) = [] ∧
        ∀ w' base' sp' held', ps.mapM (fun p => DataW.trod enc P w' base' sp' held' fuel p.1 ((cs.drop p.2).take (P.cellsOf p.1))) = some xs
  | [], o, r, xs, hr, _, hx => by
    simp [flatPs] at hr; subst hr
    simp at hx; subst hx
    exact ⟨fun i k h => by simp at h, rfl, fun _ _ _ _ => by simp⟩
  | p :: ps, o, r, xs, hr, ho, hx => by
    simp only [flatPs, Option.bind_eq_some_iff] at hr
    obtain ⟨ks, hks, r', hr', hif⟩ := hr
    split at hif
    case isFalse => cases hif
    case isTrue hp =>
    cases hif
    rw [List.length_append] at ho
    rw [List.mapM_cons] at hx
    simp only [bind, pure, Option.bind_eq_some_iff, Option.some.injEq] at hx
    obtain ⟨x, hx1, xs', hx2, rfl⟩ := hx
    have hl : ((cs.drop p.2).take (P.cellsOf p.1)).length = ks.length := by
      rw [List.length_take, List.length_drop, hp.2, hp.1]; omega
    obtain ⟨a1, a2, a3⟩ := hg _ _ _ _ hks hl hx1
    obtain ⟨b1, b2, b3⟩ := flatPs_sound hg cs ps (o + ks.length) r' xs' hr' (by omega) hx2
    refine ⟨fun i k h => ?_, by simp [a2, b2], fun w' base' sp' held' => ?_⟩
    · by_cases hi : i < ks.length
      · rw [List.getElem?_append_left hi] at h
        obtain ⟨z, hz, hw⟩ := a1 i k h
        refine ⟨z, ?_, hw⟩
        rw [List.getElem?_take, if_pos (by omega), List.getElem?_drop, hp.1] at hz
        exact hz
      · rw [List.getElem?_append_right (by omega)] at h
        obtain ⟨z, hz, hw⟩ := b1 _ k h
        refine ⟨z, ?_, hw⟩
        rw [show o + i = o + ks.length + (i - ks.length) by omega]
        exact hz
    · rw [List.mapM_cons, a3, b3]; rfl

theorem mapM_mapO {α β γ : Type} (f : α → β) (g : β → Option γ) : ∀ l : List α, (l.map f).mapM g = l.mapM (fun a => g (f a))
  | [] => by simp
  | a :: l => by simp only [List.map_cons, List.mapM_cons, mapM_mapO f g l]

theorem flatK_sound : ∀ (d : Nat) {t : TypeId} {ks : List IntKind} {w : World} {base : Nat} {sp : Nat → Bool} {held : Bool} {fuel : Nat} {cs : List Value} {x : DataW H × List MemPlace},
    flatK P d t = some ks → cs.length = ks.length → DataW.trod enc P w base sp held fuel t cs = some x → FlatR enc P t ks fuel cs x
  | 0, _, _, _, _, _, _, _, _, _, h, _, _ => by simp [flatK] at h
  | d + 1, t, ks, w, base, sp, held, fuel, cs, x, h, hl, hx => by
    rw [flatK] at h
    split at h
    case h_1 k hu =>
      cases h
      obtain ⟨z, rfl, rfl, hw⟩ := DataW.trod_int hu hx
      refine ⟨fun i k' hi => ?_, rfl, fun w' base' sp' held' => ?_⟩
      · cases i with
        | zero => simp at hi; subst hi; exact ⟨z, rfl, hw⟩
        | succ i => simp at hi
      · cases fuel with
        | zero => simp [DataW.trod] at hx
        | succ n => simp [DataW.trod, hu, hw]
    case h_2 n e hu =>
      cases fuel with
      | zero => simp [DataW.trod] at hx
      | succ m =>
        have hlen : cs.length = P.cellsOf t := by
          obtain ⟨_, _, _, _, hlen, _⟩ := DataW.trod_array hu hx
          exact hlen
        have hun : ∀ w base sp held, DataW.trod enc P w base sp held (m + 1) t cs = ((List.range n).mapM fun i => DataW.trod enc P w base sp held m e ((cs.drop (i * P.cellsOf e)).take (P.cellsOf e))).map fun xs => (DataW.agg (xs.map (·.1)), xs.flatMap (·.2)) := by
          intro w base sp held
          conv => lhs; unfold DataW.trod
          rw [hu]
          simp only [hlen, if_true]
        rw [hun] at hx
        simp only [Option.map_eq_some_iff] at hx
        obtain ⟨xs, hxs, rfl⟩ := hx
        rw [← mapM_mapO (fun i => (e, i * P.cellsOf e)) (fun p => DataW.trod enc P w base sp held m p.1 ((cs.drop p.2).take (P.cellsOf p.1)))] at hxs
        obtain ⟨b1, b2, b3⟩ := flatPs_sound (fun t ks cs x h1 h2 h3 => flatK_sound d h1 h2 h3) cs _ 0 ks xs h (by omega) hxs
        refine ⟨fun i k hi => by have := b1 i k hi; rwa [Nat.zero_add] at this, b2, fun w' base' sp' held' => ?_⟩
        rw [hun, ← mapM_mapO (fun i => (e, i * P.cellsOf e)) (fun p => DataW.trod enc P w' base' sp' held' m p.1 ((cs.drop p.2).take (P.cellsOf p.1))), b3]
        rfl
    case h_3 fs hu =>
      cases fuel with
      | zero => simp [DataW.trod] at hx
      | succ m =>
        have hlen : cs.length = P.cellsOf t := by
          obtain ⟨_, _, _, _, hlen, _⟩ := DataW.trod_struct hu hx
          exact hlen
        have hun : ∀ w base sp held, DataW.trod enc P w base sp held (m + 1) t cs = (fs.toList.mapM fun f => DataW.trod enc P w base sp held m f.type ((cs.drop f.offset).take (P.cellsOf f.type))).map fun xs => (DataW.agg (xs.map (·.1)), xs.flatMap (·.2)) := by
          intro w base sp held
          conv => lhs; unfold DataW.trod
          rw [hu]
          simp only [hlen, if_true]
        rw [hun] at hx
        simp only [Option.map_eq_some_iff] at hx
        obtain ⟨xs, hxs, rfl⟩ := hx
        rw [← mapM_mapO (fun f : Field => (f.type, f.offset)) (fun p => DataW.trod enc P w base sp held m p.1 ((cs.drop p.2).take (P.cellsOf p.1)))] at hxs
        obtain ⟨b1, b2, b3⟩ := flatPs_sound (fun t ks cs x h1 h2 h3 => flatK_sound d h1 h2 h3) cs _ 0 ks xs h (by omega) hxs
        refine ⟨fun i k hi => by have := b1 i k hi; rwa [Nat.zero_add] at this, b2, fun w' base' sp' held' => ?_⟩
        rw [hun, ← mapM_mapO (fun f : Field => (f.type, f.offset)) (fun p => DataW.trod enc P w' base' sp' held' m p.1 ((cs.drop p.2).take (P.cellsOf p.1))), b3]
        rfl
    case h_4 => cases h

def isAgg (P : Program) (t : TypeId) : Bool :=
  match P.underlying t with
  | some (.array _ _) => true
  | some (.struct _) => true
  | _ => false

/-- An argument made of numbers alone: an array of numbers of those kinds, which any world reads alike. -/
theorem open_flat (d : Nat) {t : TypeId} {ks : List IntKind} {w : World} {b0 : Nat} {base : Nat} {sp : Nat → Bool} {held : Bool} {v : Value} {D : DataW H} {ps : List MemPlace} {r : Reach}
    (hk : flatK P d t = some ks) (ha : isAgg P t = true) (hl : P.cellsOf t = ks.length) (hval : Value.okWide P w r b0 t v) (hd : DataW.Trod enc P w base sp held t v D ps) :
    ∃ z : Nat → Int, v = (AV.arr ks.length fun i => .int (ks.getD i .u8) (z i)).conc ∧ (∀ i, (Lit.int (ks.getD i .u8) (z i)).wf = true) ∧ ps = [] ∧ ∀ w' base' sp' held', DataW.Trod enc P w' base' sp' held' t v D [] := by
  have hagg : ∃ cs, v = .agg cs ∧ cs.size = P.cellsOf t := by
    unfold isAgg at ha
    unfold Value.okWide at hval
    split at ha
    case h_1 hu => rw [hu] at hval; obtain ⟨cs, h1, h2, _⟩ := hval; exact ⟨cs, h1, h2⟩
    case h_2 hu => rw [hu] at hval; obtain ⟨cs, h1, h2, _⟩ := hval; exact ⟨cs, h1, h2⟩
    case h_3 => cases ha
  obtain ⟨cs, rfl, hsz⟩ := hagg
  obtain ⟨fuel, hf⟩ := hd
  have hlen : (Value.agg cs).cells.toList.length = ks.length := by
    rw [← hl, ← hsz]; simp [Value.cells]
  obtain ⟨a1, a2, a3⟩ := flatK_sound d hk hlen hf
  simp only at a2
  subst a2
  refine ⟨fun i => match cs[i]? with | some (.int _ z) => z | _ => 0, ?_, fun i => ?_, rfl, fun w' base' sp' held' => ⟨fuel, a3 _ _ _ _⟩⟩
  · simp only [AV.conc, Value.agg.injEq]
    apply Array.ext
    · simp [arrC, hsz, hl]
    · intro i h1 h2
      have hi : i < ks.length := by rw [← hl, ← hsz]; exact h1
      obtain ⟨z, hz, _⟩ := a1 i (ks[i]) (by simp [hi])
      simp only [Value.cells, Array.getElem?_toList] at hz
      have he : cs[i] = .int ks[i] z := by
        have := hz
        rw [Array.getElem?_eq_getElem h1] at this
        exact Option.some.inj this
      simp only [arrC, Array.getElem_ofFn, SV.conc, hz]
      rw [he]
      simp [hi]
  · by_cases hi : i < ks.length
    · obtain ⟨z, hz, hw⟩ := a1 i (ks[i]) (by simp [hi])
      simp only [Value.cells, Array.getElem?_toList] at hz
      simp only [hz]
      simp only [List.getD, List.getElem?_eq_getElem hi, Option.getD_some]
      exact hw
    · have : cs[i]? = none := by
        rw [Array.getElem?_eq_none_iff]; omega
      simp only [this, List.getD, List.getElem?_eq_none_iff.2 (Nat.le_of_not_lt hi), Option.getD_none]
      rfl
end
end Go.V
