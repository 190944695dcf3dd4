/- Regions in an open order in which new blocks are made and filled beside quiet operations. -/
import Derived.Test.YtgnphaopeplfbaaGreatDoorJad
set_option linter.unusedSectionVars false
set_option linter.unusedVariables false
set_option linter.unusedSimpArgs false
namespace Go.V
variable [BW]
set_option linter.unusedSimpArgs false
set_option linter.unusedVariables false

def Ext (H Hc : Hp) : Prop := ∀ b k, H.get b = some k → Hc.get b = some k

theorem Mem.selfBase {w0 w : World} {H Hc : Hp} {n : Nat} (h : Mem w0 Hc n w) (he : Ext H Hc) : Mem w H n w :=
  ⟨h.size, by rw [h.size]; exact Nat.le_refl _, rfl, rfl, rfl, fun b k hb => h.blk b k (he b k hb), fun _ _ _ => rfl, fun _ _ => rfl, fun b off v hv => by
    obtain ⟨h1, h2, h3⟩ := h.ro b off v hv
    refine ⟨by have := h.base; rw [h.size]; omega, ?_, h3⟩
    cases e : H.get b with
    | none => rfl
    | some k => rw [he b k e] at h2; cases h2⟩

theorem Mem.back {w0 w w' : World} {H Hc : Hp} {n n' : Nat} (h : Mem w0 Hc n w) (he : Ext H Hc) (h' : Mem w H n' w') : Mem w0 Hc n' w' := by
  have hn : n ≤ n' := by have := h'.base; rw [h.size] at this; exact this
  refine ⟨h'.size, Nat.le_trans h.base hn, h'.os.trans h.os, h'.tape.trans h.tape, h'.output.trans h.output, fun b k hb => ?_, fun b hb hn0 => ?_, fun a ha => (h'.frz a (by rw [h.size]; have := h.base; omega)).trans (h.frz a ha), fun b off v hv => ⟨(h.ro b off v hv).1, (h.ro b off v hv).2.1, (h'.ro b off v hv).2.2⟩⟩
  · cases e : H.get b with
    | some k' =>
      have := he b k' e
      rw [hb] at this
      cases this
      exact h'.blk b k e
    | none =>
      have hl := h.lt hb
      rw [h'.frame b (by rw [h.size]; exact hl) e]
      exact h.blk b k hb
  · have e : H.get b = none := by
      cases e : H.get b with
      | none => rfl
      | some k => rw [he b k e] at hn0; cases hn0
    rw [h'.frame b (by rw [h.size]; have := h.base; omega) e]
    exact h.frame b hb hn0

section
variable {P : Program} {ops : Array Oper} {md : Region.Mode} {H : Hp} {n m : Nat} {eff : Nat → Bool} {K : Act → Hp → Prop}

def eRun (P : Program) (n m : Nat) (o : Oper) (a : Act) (Hc : Hp) (K : Value → Hp → Prop) : Prop :=
  ∀ w0 w n', n ≤ n' → w0.heap.size ≤ m → Mem w0 Hc n' w → ∃ v w' Hc' n'', ((execOp a.eval o).run P w = .ok (.value v) w' ∨ ((execOp a.eval o).run P w = .ok .skip w' ∧ v = undef)) ∧ n' ≤ n'' ∧ Mem w0 Hc' n'' w' ∧ K v Hc'

def kOp (P : Program) (ops : Array Oper) (H : Hp) (n m : Nat) (eff : Nat → Bool) (i : Nat) (K : Act → Hp → Prop) (a : Act) (Hc : Hp) : Prop :=
  match ops[i]? with
  | none => False
  | some o => if eff i = true then o.guard = none ∧ eRun P n m o a Hc (fun v Hc' => Ext H Hc' ∧ K (a.put o.dst v) Hc')
    else if Region.wanted o (yielded ops a.tmps) then ∃ v, qAt P H n o a v ∧ K (a.put o.dst v) Hc else K (a.put o.dst undef) Hc

def wpMix (P : Program) (md : Region.Mode) (ops : Array Oper) (H : Hp) (n m : Nat) (eff : Nat → Bool) (K : Act → Hp → Prop) : Nat → Array Bool → Act → Hp → Prop
  | 0, listed, a, Hc => Region.ready md ops listed = [] ∧ K a Hc
  | f + 1, listed, a, Hc => (Region.ready md ops listed = [] → K a Hc) ∧ ∀ i ∈ Region.ready md ops listed, kOp P ops H n m eff i (wpMix P md ops H n m eff K f (listed.setIfInBounds i true)) a Hc

theorem wpAny_of_mix {w0 : World} (hm0 : w0.heap.size ≤ m) {Q' : Exit → Act → World → Prop} (hQ : ∀ a Hc n' w, K a Hc → n ≤ n' → Mem w0 Hc n' w → Q' .normal a w) :
    ∀ (f : Nat) (listed : Array Bool) (a : Act) (Hc : Hp) (n' : Nat) (w : World), n ≤ n' → Ext H Hc → Mem w0 Hc n' w → wpMix P md ops H n m eff K f listed a Hc → wpAny P md ops Q' f listed a w
  | 0, listed, a, Hc, n', w, hn, he, hw, h => ⟨h.1, hQ _ _ _ _ h.2 hn hw⟩
  | f + 1, listed, a, Hc, n', w, hn, he, hw, h => by
    refine ⟨fun h0 => hQ _ _ _ _ (h.1 h0) hn hw, fun i hi => ?_⟩
    have hk := h.2 i hi
    unfold kOp at hk
    unfold wpOp
    split at hk
    · exact hk.elim
    · rename_i o ho
      simp only [ho]
      split at hk
      · obtain ⟨hg, hr⟩ := hk
        rw [if_pos (by simp [Region.wanted, hg])]
        refine .inl ?_
        obtain ⟨v, w', Hc', n'', hrun, hn2, hm2, he2, hk2⟩ := hr w0 w n' hn hm0 hw
        unfold Oper.wp
        rcases hrun with hrun | ⟨hrun, rfl⟩
        · rw [hrun]; simp only [Oper.upon]
          exact wpAny_of_mix hm0 hQ f _ _ Hc' n'' w' (by omega) he2 hm2 hk2
        · rw [hrun]; simp only [Oper.upon]
          exact wpAny_of_mix hm0 hQ f _ _ Hc' n'' w' (by omega) he2 hm2 hk2
      · split at hk
        · rename_i hwant
          rw [if_pos hwant]
          refine .inl ?_
          obtain ⟨v, hq, hk2⟩ := hk
          have h3 := hq w w ⟨n', hn, hw.selfBase he⟩
          unfold Oper.quietAt at h3
          unfold Oper.wp
          generalize (execOp a.eval o).run P w = r at h3
          cases r with
          | ok x w' =>
            cases x <;> simp only [Oper.quietUpon] at h3 <;> simp only [Oper.upon]
            case value u =>
              obtain ⟨e1, e2⟩ := h3
              rw [e1, e2]
              exact wpAny_of_mix hm0 hQ f _ _ Hc n' w hn he hw hk2
            case skip =>
              obtain ⟨e1, e2⟩ := h3
              rw [e1, ← e2]
              exact wpAny_of_mix hm0 hQ f _ _ Hc n' w hn he hw hk2
            case enter fn args =>
              obtain ⟨e1, hc⟩ := h3
              rw [e1]
              refine hc.mono fun e w'' ⟨he', n'', hn'', hw''⟩ => ?_
              subst he'
              exact wpAny_of_mix hm0 hQ f _ _ Hc n'' w'' hn'' he (hw.back he hw'') hk2
          | halt x w' => simp only [Oper.quietUpon] at h3
        · rename_i hwant
          rw [if_neg hwant]
          exact wpAny_of_mix hm0 hQ f _ _ Hc n' w hn he hw hk

theorem kOp_mono {i : Nat} {a : Act} {Hc : Hp} {K K' : Act → Hp → Prop} (h : ∀ a Hc, K a Hc → K' a Hc) (hh : kOp P ops H n m eff i K a Hc) : kOp P ops H n m eff i K' a Hc := by
  unfold kOp at *
  split
  · rename_i ho; simp only [ho] at hh
  · rename_i o ho
    simp only [ho] at hh
    split
    · rename_i hw; rw [if_pos hw] at hh
      refine ⟨hh.1, fun w0 w n' h1 h2 h3 => ?_⟩
      obtain ⟨v, w', Hc', n'', hrun, hn2, hm2, he2, hk2⟩ := hh.2 w0 w n' h1 h2 h3
      exact ⟨v, w', Hc', n'', hrun, hn2, hm2, he2, h _ _ hk2⟩
    · rename_i hw; rw [if_neg hw] at hh
      split
      · rename_i hw2; rw [if_pos hw2] at hh; obtain ⟨v, h1, h2⟩ := hh; exact ⟨v, h1, h _ _ h2⟩
      · rename_i hw2; rw [if_neg hw2] at hh; exact h _ _ hh

def YieldsM (P : Program) (ops : Array Oper) (H : Hp) (n : Nat) (o : Oper) (v : Value) (a : Act) : Prop :=
  (Region.wanted o (yielded ops a.tmps) = true ∧ qAt P H n o a v) ∨ (Region.wanted o (yielded ops a.tmps) = false ∧ v = undef)

theorem YieldsM.of_same {o : Oper} {v : Value} {a a' : Act} (hy : YieldsM P ops H n o v a) (he : execOp a'.eval o = execOp a.eval o)
    (hw : Region.wanted o (yielded ops a'.tmps) = Region.wanted o (yielded ops a.tmps)) : YieldsM P ops H n o v a' := by
  unfold YieldsM qAt Oper.quietAt at *
  rw [he, hw]
  exact hy

theorem YieldsM.kOp {i : Nat} {o : Oper} {v : Value} {a : Act} {Hc : Hp} (hi : ops[i]? = some o) (hf : eff i = false) (hy : YieldsM P ops H n o v a) (h : K (a.put o.dst v) Hc) : kOp P ops H n m eff i K a Hc := by
  unfold V.kOp
  simp only [hi, hf, Bool.false_eq_true, if_false]
  rcases hy with ⟨hw, hv⟩ | ⟨hw, rfl⟩
  · rw [if_pos hw]; exact ⟨v, hv, h⟩
  · rw [if_neg (by simp [hw])]; exact h

theorem yieldsM_of_kOp {i : Nat} {o : Oper} {a : Act} {Hc : Hp} (hi : ops[i]? = some o) (hf : eff i = false) (h : kOp P ops H n m eff i K a Hc) : ∃ v, YieldsM P ops H n o v a ∧ K (a.put o.dst v) Hc := by
  unfold kOp at h
  simp only [hi, hf, Bool.false_eq_true, if_false] at h
  by_cases hw : Region.wanted o (yielded ops a.tmps) = true
  · rw [if_pos hw] at h
    obtain ⟨v, h1, h2⟩ := h
    exact ⟨v, .inl ⟨hw, h1⟩, h2⟩
  · rw [if_neg hw] at h
    exact ⟨undef, .inr ⟨by simpa using hw, rfl⟩, h⟩

theorem kOp_put {j : Nat} {oi oj : Oper} {v : Value} (hj : ops[j]? = some oj) (hap : oi.apart ops oj = true)
    (hsi : ∀ cs b, oi.op ≠ .select cs b) (hsj : ∀ cs b, oj.op ≠ .select cs b) {K : Act → Hp → Prop} {a : Act} {Hc : Hp}
    (hy : YieldsM P ops H n oi v a) (h : kOp P ops H n m eff j K (a.put oi.dst v) Hc) :
    kOp P ops H n m eff j (fun a' Hc' => YieldsM P ops H n oi v a' ∧ K (a'.put oi.dst v) Hc') a Hc := by
  obtain ⟨h1, h2, h3⟩ := Oper.apart_spec hap
  have keep : ∀ (a : Act), YieldsM P ops H n oi v a → ∀ u, YieldsM P ops H n oi v (a.put oj.dst u) := fun a hy u =>
    hy.of_same (execOp_put oi hsi a oj.dst u h3) (wanted_put oi a oj.dst u h3)
  unfold kOp at *
  simp only [hj] at *
  split
  · rename_i hf
    rw [if_pos hf] at h
    refine ⟨h.1, fun w0 w n' q1 q2 q3 => ?_⟩
    obtain ⟨u, w', Hc', n'', hrun, hn2, hm2, he2, hk2⟩ := h.2 w0 w n' q1 q2 q3
    rw [execOp_put oj hsj a oi.dst v h1] at hrun
    exact ⟨u, w', Hc', n'', hrun, hn2, hm2, he2, keep a hy u, by rw [← Act.put_comm a v u h2]; exact hk2⟩
  · rename_i hf
    rw [if_neg hf] at h
    rw [wanted_put oj a oi.dst v h1] at h
    split
    · rename_i hw
      rw [if_pos hw] at h
      obtain ⟨u, hu, hn⟩ := h
      refine ⟨u, fun w0 w hw' => ?_, keep a hy u, by rw [← Act.put_comm a v u h2]; exact hn⟩
      have := hu w0 w hw'
      unfold Oper.quietAt at *
      rwa [execOp_put oj hsj a oi.dst v h1] at this
    · rename_i hw
      rw [if_neg hw] at h
      exact ⟨keep a hy _, by rw [← Act.put_comm a v undef h2]; exact h⟩

theorem wpMix_first {i : Nat} {oi : Oper} {v : Value} (hi : ops[i]? = some oi) (hfi : eff i = false) (hsel : ∀ (j : Nat) (o : Oper) cs b, ops[j]? = some o → o.op ≠ .select cs b) :
    ∀ (fuel : Nat) (listed : Array Bool) (a : Act) (Hc : Hp),
      (∀ j oj, ops[j]? = some oj → j ≠ i → listed.getD j true = false → (∀ e ∈ oj.after, Region.binds md e = true → e.on ≠ i) → oi.apart ops oj = true) →
      i ∈ Region.ready md ops listed → YieldsM P ops H n oi v a →
      wpMix P md ops H n m eff K fuel (listed.setIfInBounds i true) (a.put oi.dst v) Hc → wpMix P md ops H n m eff K (fuel + 1) listed a Hc := by
  intro fuel
  induction fuel with
  | zero =>
    intro listed a Hc _ hr hy hh
    refine ⟨fun h => (by rw [h] at hr; cases hr), fun j hj => ?_⟩
    by_cases hji : j = i
    · subst hji; exact hy.kOp hi hfi hh
    · have := ready_mono hj hji
      rw [hh.1] at this
      cases this
  | succ fuel ih =>
    intro listed a Hc hfree hr hy hh
    refine ⟨fun h => (by rw [h] at hr; cases hr), fun j hj => ?_⟩
    by_cases hji : j = i
    · subst hji; exact hy.kOp hi hfi hh
    · have h1 := hh.2 j (ready_mono hj hji)
      obtain ⟨hjun, oj, hoj, hall⟩ := mem_ready.1 hj
      have hnot : ∀ e ∈ oj.after, Region.binds md e = true → e.on ≠ i := fun e he hb heq => by
        have h1 := hall e he hb
        have h0 := (mem_ready.1 hr).1
        rw [heq] at h1
        rcases Nat.lt_or_ge i listed.size with h' | h'
        · simp [h'] at h0 h1; rw [h0] at h1; cases h1
        · simp [Array.getElem?_eq_none h'] at h1
      have h2 := kOp_put hoj (hfree j oj hoj hji hjun hnot) (fun cs b => hsel i oi cs b hi) (fun cs b => hsel j oj cs b hoj) hy h1
      have hfree' : ∀ k ok, ops[k]? = some ok → k ≠ i → (listed.setIfInBounds j true).getD k true = false →
          (∀ e ∈ ok.after, Region.binds md e = true → e.on ≠ i) → oi.apart ops ok = true := fun k ok hk hki hun hno => by
        refine hfree k ok hk hki ?_ hno
        by_cases hjk : j = k
        · subst hjk; exact hjun
        · rw [getD_set_ne true hjk] at hun; exact hun
      refine kOp_mono (fun a' Hc' h3 => ih (listed.setIfInBounds j true) a' Hc' hfree' (ready_mono hr (Ne.symm hji)) h3.1 ?_) h2
      rw [Array.setIfInBounds_comm _ _ hji]
      exact h3.2

def lexQ (md : Region.Mode) (ops : Array Oper) : List Nat → Array Bool → Bool
  | [], _ => true
  | k :: r, listed => (Region.ready md ops listed).contains k && Region.free md ops listed k && lexQ md ops r (listed.setIfInBounds k true)
def seqE (md : Region.Mode) (ops : Array Oper) : List Nat → Array Bool → Bool
  | [], listed => (Region.ready md ops listed).isEmpty
  | k :: r, listed => decide (Region.ready md ops listed = [k]) && seqE md ops r (listed.setIfInBounds k true)
def listAll : List Nat → Array Bool → Array Bool
  | [], listed => listed
  | k :: r, listed => listAll r (listed.setIfInBounds k true)
def mixB (md : Region.Mode) (ops : Array Oper) (qs es : List Nat) : Bool :=
  Region.noSelect ops && lexQ md ops qs (Array.replicate ops.size false) && seqE md ops es (listAll qs (Array.replicate ops.size false)) && decide (qs.length + es.length = ops.size)
    && qs.all (fun k => decide (k < ops.size) && !es.contains k) && es.all (fun k => decide (k < ops.size))

def wpI (P : Program) (ops : Array Oper) (H : Hp) (n m : Nat) (eff : Nat → Bool) (K : Act → Hp → Prop) : List Nat → Act → Hp → Prop
  | [], a, Hc => K a Hc
  | k :: r, a, Hc => kOp P ops H n m eff k (wpI P ops H n m eff K r) a Hc

theorem mix_tail : ∀ (es : List Nat) (listed : Array Bool) (a : Act) (Hc : Hp), seqE md ops es listed = true → wpI P ops H n m eff K es a Hc → wpMix P md ops H n m eff K es.length listed a Hc
  | [], listed, a, Hc, hB, h => ⟨by simpa [seqE] using hB, h⟩
  | k :: r, listed, a, Hc, hB, h => by
    simp only [seqE, Bool.and_eq_true, decide_eq_true_eq] at hB
    refine ⟨fun h1 => (by rw [hB.1] at h1; cases h1), fun i hi => ?_⟩
    rw [hB.1] at hi
    have hik : i = k := by simpa using hi
    subst hik
    exact kOp_mono (fun a' Hc' h' => mix_tail r _ a' Hc' hB.2 h') h

theorem mix_lex (hs : Region.noSelect ops = true) (es : List Nat) : ∀ (qs : List Nat) (listed : Array Bool) (a : Act) (Hc : Hp), lexQ md ops qs listed = true → seqE md ops es (listAll qs listed) = true → (∀ k ∈ qs, eff k = false) →
    wpI P ops H n m eff K (qs ++ es) a Hc → wpMix P md ops H n m eff K (qs.length + es.length) listed a Hc
  | [], listed, a, Hc, _, hE, _, h => by
    simp only [List.length_nil, Nat.zero_add]
    exact mix_tail es listed a Hc hE h
  | k :: r, listed, a, Hc, hB, hE, hf, h => by
    simp only [lexQ, Bool.and_eq_true] at hB
    obtain ⟨⟨hr, hfr⟩, hB'⟩ := hB
    have hk : kOp P ops H n m eff k (wpI P ops H n m eff K (r ++ es)) a Hc := h
    cases ho : ops[k]? with
    | none => unfold kOp at hk; simp only [ho] at hk
    | some o =>
      obtain ⟨v, hy, hK⟩ := yieldsM_of_kOp ho (hf k (by simp)) hk
      rw [show (k :: r).length + es.length = (r.length + es.length) + 1 by simp only [List.length_cons]; omega]
      exact wpMix_first ho (hf k (by simp)) (Region.noSelect_spec hs) _ listed a Hc (Region.free_spec ho hfr) (by simpa using hr) hy
        (mix_lex hs es r _ _ Hc hB' hE (fun k' hk' => hf k' (by simp [hk'])) hK)

theorem wp_region_mix {id : Nat} {Q : Exit → Act → World → Prop} {a : Act} {w0 w : World} {qs es : List Nat} (hm : P.follows .mixedOrders = true) (hB : mixB .any ops qs es = true)
    (hsz : w0.heap.size ≤ m) (hw : Mem w0 H n w) (hK : ∀ a Hc n' w, K a Hc → n ≤ n' → Mem w0 Hc n' w → Q .normal a w)
    (h : wpI P ops H n m (fun i => es.contains i) K (qs ++ es) a H) : (Code.region id ops true).wp P Q a w := by
  simp only [mixB, Bool.and_eq_true, decide_eq_true_eq] at hB
  obtain ⟨⟨⟨⟨⟨h1, h2⟩, h3⟩, h4⟩, h5⟩, h6⟩ := hB
  refine wp_region_any hm ?_
  have key := mix_lex (md := .any) (P := P) (H := H) (n := n) (m := m) (eff := fun i => es.contains i) (K := K) h1 es qs _ a H h2 h3 (fun k hk => by
    have := List.all_eq_true.1 h5 k hk
    simp only [Bool.and_eq_true, decide_eq_true_eq, Bool.not_eq_true'] at this
    exact this.2) h
  rw [h4] at key
  exact wpAny_of_mix (w0 := w0) hsz hK _ _ _ H n _ (Nat.le_refl _) (fun _ _ h => h) (hw.drew _) key
end

/-! ### Lists -/
section
variable {P : Program}

def pick {α : Type} (ks : List Nat) (l : List α) : List α := ks.filterMap fun k => l[k]?

theorem pick_mapM {α β : Type} {f : α → Option β} {l : List α} {r : List β} (h : l.mapM f = some r) : ∀ (ks : List Nat), (∀ k ∈ ks, k < l.length) → (pick ks l).mapM f = some (pick ks r)
  | [], _ => by simp [pick]
  | k :: ks, hk => by
    have hlt := hk k (by simp)
    have hg := mapM_some_get h k l[k] (by simp [hlt])
    have hlr := mapM_some_length h
    have hr : r[k]? = some r[k] := by simp [hlr, hlt]
    have ih := pick_mapM h ks (fun k' hk' => hk k' (by simp [hk']))
    unfold pick at *
    have hl : l[k]? = some l[k] := by simp [hlt]
    rw [List.filterMap_cons, List.filterMap_cons, hl, hr]
    simp only [List.mapM_cons, hg, hr, ih]
    rfl

/-- What only makes a block. -/
def gentleI : I → Bool
  | .bsl .. => true
  | _ => false
def gentle (P : Program) (o : Oper) : Bool := match trI P o.type o.op with
  | some i => gentleI i
  | none => false
theorem gentle_of {o : Oper} {i : I} (h : trI P o.type o.op = some i) : gentle P o = gentleI i := by unfold gentle; rw [h]

def wpEf (P : Program) (n m : Nat) (H : Hp) (Ka : Act → Hp → Prop) : List Oper → Act → Hp → Prop
  | [], a, Hc => Ka a Hc
  | o :: r, a, Hc => o.guard = none ∧ eRun P n m o a Hc (fun v Hc' => Ext H Hc' ∧ (gentle P o = true → Ext Hc Hc') ∧ wpEf P n m H Ka r (a.put o.dst v) Hc')

theorem wpI_of_ef {ops : Array Oper} {H : Hp} {n m : Nat} {eff : Nat → Bool} {K : Act → Hp → Prop} : ∀ (es : List Nat) (a : Act) (Hc : Hp), (∀ k ∈ es, k < ops.size ∧ eff k = true) → wpEf P n m H K (pick es ops.toList) a Hc → wpI P ops H n m eff K es a Hc
  | [], a, Hc, _, h => h
  | k :: es, a, Hc, hk, h => by
    obtain ⟨hlt, hf⟩ := hk k (by simp)
    have ho : ops[k]? = some ops[k] := by simp [hlt]
    have ho' : ops.toList[k]? = some ops[k] := by simp [hlt]
    unfold pick at h
    rw [List.filterMap_cons, ho'] at h
    unfold wpI kOp
    simp only [ho, hf, if_true]
    obtain ⟨h1, h2⟩ := h
    refine ⟨h1, fun w0 w n' q1 q2 q3 => ?_⟩
    obtain ⟨v, w', Hc', n'', hrun, hn2, hm2, he2, _, hk2⟩ := h2 w0 w n' q1 q2 q3
    exact ⟨v, w', Hc', n'', hrun, hn2, hm2, he2, wpI_of_ef es _ Hc' (fun k' hk' => hk k' (by simp [hk'])) hk2⟩

theorem wpI_of_q {ops : Array Oper} {H : Hp} {n m : Nat} {eff : Nat → Bool} {K : Act → Hp → Prop} (es : List Nat) (Hc : Hp) : ∀ (qs : List Nat) (a : Act), (∀ k ∈ qs, k < ops.size ∧ eff k = false) →
    wpQ P ops H n (fun a' => wpI P ops H n m eff K es a' Hc) (pick qs ops.toList) a → wpI P ops H n m eff K (qs ++ es) a Hc
  | [], a, _, h => h
  | k :: qs, a, hk, h => by
    obtain ⟨hlt, hf⟩ := hk k (by simp)
    have ho : ops[k]? = some ops[k] := by simp [hlt]
    have ho' : ops.toList[k]? = some ops[k] := by simp [hlt]
    unfold pick at h
    rw [List.filterMap_cons, ho'] at h
    rw [List.cons_append]
    unfold wpI kOp
    simp only [ho, hf, Bool.false_eq_true, if_false]
    unfold wpQ at h
    split at h
    · rename_i hw
      rw [if_pos hw]
      obtain ⟨v, h1, h2⟩ := h
      exact ⟨v, h1, wpI_of_q es Hc qs _ (fun k' hk' => hk k' (by simp [hk'])) h2⟩
    · rename_i hw
      rw [if_neg hw]
      exact wpI_of_q es Hc qs _ (fun k' hk' => hk k' (by simp [hk'])) h

theorem Mem.recell {w0 w : World} {H : Hp} {n b : Nat} {k : Blk} {c c' : Nat → SV} (h : Mem w0 (H.set b c) n w) (hb : H.get b = some k) (hc : ∀ i, i < k.size → c i = c' i) : Mem w0 (H.set b c') n w := by
  refine ⟨h.size, h.base, h.os, h.tape, h.output, fun b' k' hb' => ?_, fun b' hlt hn => h.frame b' hlt ?_, h.frz, fun b' off v hv => by
    obtain ⟨h1, h2, h3⟩ := h.ro b' off v hv
    refine ⟨h1, ?_, h3⟩
    by_cases e : b = b'
    · subst e; rw [Hp.get_set_self c hb] at h2; cases h2
    · rw [Hp.get_set_other _ e] at h2 ⊢; exact h2⟩
  · by_cases e : b = b'
    · subst e
      rw [Hp.get_set_self c' hb] at hb'
      cases hb'
      have := h.blk b _ (Hp.get_set_self c hb)
      rw [this]
      simp only [Blk.obj, arrC_congr hc]
    · rw [Hp.get_set_other _ e] at hb'
      exact h.blk b' k' (by rw [Hp.get_set_other _ e]; exact hb')
  · by_cases e : b = b'
    · subst e; rw [Hp.get_set_self c' hb] at hn; cases hn
    · rw [Hp.get_set_other _ e] at hn ⊢; exact hn

/-- New blocks and what is laid into them, one after the other. -/
def MS (P : Program) (N m : Nat) (H : Hp) (n : Nat) (l : List Ins) (e : Env) (Hc : Hp) (K : Env → Hp → Prop) : Prop :=
  ∀ (ops : Array Oper) (l' : List Oper), l'.mapM (trOp P N ops) = some l → ∀ (a : Act) (Ka : Act → Hp → Prop), Ag N e a → Ext H Hc → (∀ b, n ≤ b → H.get b = none) →
    (∀ e' a' Hc', K e' Hc' → Ag N e' a' → Ext H Hc' → Ka a' Hc') → wpEf P n m H Ka l' a Hc

theorem MS.nil {N m : Nat} {H : Hp} {n : Nat} {e : Env} {Hc : Hp} {K : Env → Hp → Prop} (h : K e Hc) : MS P N m H n [] e Hc K := by
  intro ops l' hl a Ka hag he _ hK
  have : l' = [] := by
    cases l' with
    | nil => rfl
    | cons o l' => simp [List.mapM_cons, bind, Option.bind_eq_some_iff] at hl
  subst this
  exact hK _ _ _ h hag he

theorem MS.new {N m : Nat} {H : Hp} {n : Nat} {d : Option Nat} {t : TypeId} {z : Zs} {l : List Ins} {e : Env} {Hc : Hp} {K : Env → Hp → Prop}
    (h : ∀ b, n ≤ b → Hc.get b = none → MS P N m H n l (putD d (.s (.ptr b 0)) e) ((b, ⟨z.size, z.c, t⟩) :: Hc) K) : MS P N m H n (⟨d, none, .new t z⟩ :: l) e Hc K := by
  intro ops l' hl a Ka hag he hf hK
  obtain ⟨o, r, rfl, ho, hr⟩ := mapM_cons_inv hl
  obtain ⟨h1, h2, h3, h4⟩ := trOp_spec ho
  dsimp only at h1 h2 h3 h4
  refine ⟨h4, fun w0 w n' q1 q2 q3 => ?_⟩
  have hgn : gentle P o = true → Ext Hc ((n', ⟨z.size, z.c, t⟩) :: Hc) := fun hg => by rw [gentle_of h1] at hg; cases hg
  obtain ⟨dst, op, ty, pos, after, guard⟩ := o
  dsimp only at h1 h2 h3 h4
  obtain ⟨rfl, hz⟩ := inv_new h1
  obtain ⟨i, v, hi, hv, hc, hs⟩ := zOf_spec hz
  have hfr : Hc.get n' = none := q3.fresh (Nat.le_refl _)
  have hE : Ext H ((n', ⟨z.size, z.c, t⟩) :: Hc) := fun b k hb => by
    have hne : n' ≠ b := by intro e1; subst e1; rw [hf _ q1] at hb; cases hb
    rw [Hp.get_ne _ _ hne]; exact he b k hb
  refine ⟨_, _, _, _, .inl ?_, Nat.le_succ _, q3.push ⟨z.size, z.c, t⟩, hE, hgn, h n' q1 hfr ops r hr _ Ka (by rw [h2]; exact hag.putD h3 (.s (.ptr n' 0))) hE hf hK⟩
  simp only [execOp]
  refine run_v' ?_
  have hz' : (zeroValue t).run P w = .ok v w := by simp [zeroValue, typeInfo, hi, hv]
  have := run_newRow (P := P) q3 ⟨z.size, z.c, t⟩
  simp [Instr.alloc, hz', newVar, hc, this, AV.conc, SV.conc]

theorem MS.stx {N m : Nat} {H : Hp} {n : Nat} {z : Nat} {x y : X} {l : List Ins} {e : Env} {Hc : Hp} {K : Env → Hp → Prop} {b off : Nat} {k : Blk} {c c' : Nat → SV}
    (hx : x.ev e = some (.s (.ptr b off))) (hy : y.ev e = some (.arr z c)) (hb : Hc.get b = some k) (ho : off + z ≤ k.size) (hnb : n ≤ b) (hcc : ∀ i, i < k.size → splice k.c off z c i = c' i)
    (h : MS P N m H n l e (Hc.set b c') K) : MS P N m H n (⟨none, none, .st z x y⟩ :: l) e Hc K := by
  intro ops l' hl a Ka hag he hf hK
  obtain ⟨o, r, rfl, ho', hr⟩ := mapM_cons_inv hl
  obtain ⟨h1, h2, h3, h4⟩ := trOp_spec ho'
  dsimp only at h1 h2 h3 h4
  refine ⟨h4, fun w0 w n' q1 q2 q3 => ?_⟩
  have hgn : gentle P o = true → Ext Hc (Hc.set b c') := fun hg => by rw [gentle_of h1] at hg; cases hg
  obtain ⟨dst, op, ty, pos, after, guard⟩ := o
  dsimp only at h1 h2 h3 h4
  subst h2
  obtain ⟨t, x0, y0, rfl, hs, hx0, hy0⟩ := inv_st h1
  have e1 := trX_eval hag hx0 hx
  have e2 := trX_eval hag hy0 hy
  simp only [sizeT, Option.map_eq_some_iff] at hs
  obtain ⟨ti, hti, rfl⟩ := hs
  have hz : (sizeOf t).run P w = .ok ti.size w := by simp [sizeOf, typeInfo, hti]
  have hE : Ext H (Hc.set b c') := fun b' k' hb' => by
    have hne : b ≠ b' := by intro e3; subst e3; rw [hf _ hnb] at hb'; cases hb'
    rw [Hp.get_set_other _ hne]; exact he b' k' hb'
  obtain ⟨w', hrun, hm'⟩ := run_storeArr (P := P) (d := c) q3 hb ho
  refine ⟨undef, w', _, n', .inr ⟨?_, rfl⟩, Nat.le_refl _, hm'.recell hb hcc, hE, hgn, h ops r hr _ Ka hag hE hf hK⟩
  have hsz : (a.eval y0).cells.size = ti.size := by rw [e2]; simp [AV.conc, Value.cells]
  have hcs : (a.eval y0).cells = arrC ti.size c := by rw [e2]; rfl
  rw [← hcs] at hrun
  simp [execOp, Instr.storeAt, e1, AV.conc, SV.conc, Instr.sureAddr, storeVar, hz, hsz, hrun]

/-- A slice made. -/
theorem MS.bsl {N m : Nat} {H : Hp} {n : Nat} {d : Option Nat} {t : TypeId} {len sz : Nat} {z : Zs} {ps : List (Nat × Nat × X)} {c : Nat → SV} {l : List Ins} {e : Env} {Hc : Hp} {K : Env → Hp → Prop}
    (hp : placeAll e ps (fun i => z.c (i % sz)) = some c) (h : ∀ b, n ≤ b → (∀ x, b ≤ x → Hc.get x = none) → MS P N m H n l (putD d (.s (.slc b 0 len len)) e) ((b, ⟨len * sz, c, t⟩) :: Hc) K) : MS P N m H n (⟨d, none, .bsl t len sz z ps⟩ :: l) e Hc K := by
  intro ops l' hl a Ka hag he hf hK
  obtain ⟨o, r, rfl, ho, hr⟩ := mapM_cons_inv hl
  obtain ⟨h1, h2, h3, h4⟩ := trOp_spec ho
  dsimp only at h1 h2 h3 h4
  refine ⟨h4, fun w0 w n' q1 q2 q3 => ?_⟩
  obtain ⟨w', hrun, hm'⟩ := run_bsl h1 q3 hag hp
  have hfr : Hc.get n' = none := q3.fresh (Nat.le_refl _)
  have hE : Ext Hc ((n', ⟨len * sz, c, t⟩) :: Hc) := fun b k hb => by
    have hne : n' ≠ b := by intro e1; subst e1; rw [hfr] at hb; cases hb
    rw [Hp.get_ne _ _ hne]; exact hb
  exact ⟨_, w', _, _, .inl hrun, Nat.le_succ _, hm', fun b k hb => hE b k (he b k hb), fun _ => hE, h n' q1 (fun x hx => q3.fresh hx) ops r hr _ Ka (by rw [h2]; exact hag.putD h3 (.s (.slc n' 0 len len))) (fun b k hb => hE b k (he b k hb)) hf hK⟩

/-- A store into a block that nothing quiet reads. -/
theorem MS.stf {N m : Nat} {H : Hp} {n : Nat} {z : Nat} {x y : X} {l : List Ins} {e : Env} {Hc : Hp} {K : Env → Hp → Prop} {b off : Nat} {k : Blk} {c c' : Nat → SV}
    (hx : x.ev e = some (.s (.ptr b off))) (hy : y.ev e = some (.arr z c)) (hb : Hc.get b = some k) (ho : off + z ≤ k.size) (hnb : H.get b = none) (hcc : ∀ i, i < k.size → splice k.c off z c i = c' i)
    (h : MS P N m H n l e (Hc.set b c') K) : MS P N m H n (⟨none, none, .st z x y⟩ :: l) e Hc K := by
  intro ops l' hl a Ka hag he hf hK
  obtain ⟨o, r, rfl, ho', hr⟩ := mapM_cons_inv hl
  obtain ⟨h1, h2, h3, h4⟩ := trOp_spec ho'
  dsimp only at h1 h2 h3 h4
  refine ⟨h4, fun w0 w n' q1 q2 q3 => ?_⟩
  have hgn : gentle P o = true → Ext Hc (Hc.set b c') := fun hg => by rw [gentle_of h1] at hg; cases hg
  obtain ⟨dst, op, ty, pos, after, guard⟩ := o
  dsimp only at h1 h2 h3 h4
  subst h2
  obtain ⟨t, x0, y0, rfl, hs, hx0, hy0⟩ := inv_st h1
  have e1 := trX_eval hag hx0 hx
  have e2 := trX_eval hag hy0 hy
  simp only [sizeT, Option.map_eq_some_iff] at hs
  obtain ⟨ti, hti, rfl⟩ := hs
  have hz : (sizeOf t).run P w = .ok ti.size w := by simp [sizeOf, typeInfo, hti]
  have hE : Ext H (Hc.set b c') := fun b' k' hb' => by
    have hne : b ≠ b' := by intro e3; subst e3; rw [hnb] at hb'; cases hb'
    rw [Hp.get_set_other _ hne]; exact he b' k' hb'
  obtain ⟨w', hrun, hm'⟩ := run_storeArr (P := P) (d := c) q3 hb ho
  refine ⟨undef, w', _, n', .inr ⟨?_, rfl⟩, Nat.le_refl _, hm'.recell hb hcc, hE, hgn, h ops r hr _ Ka hag hE hf hK⟩
  have hsz : (a.eval y0).cells.size = ti.size := by rw [e2]; simp [AV.conc, Value.cells]
  have hcs : (a.eval y0).cells = arrC ti.size c := by rw [e2]; rfl
  rw [← hcs] at hrun
  simp [execOp, Instr.storeAt, e1, AV.conc, SV.conc, Instr.sureAddr, storeVar, hz, hsz, hrun]

theorem MS.st {N m : Nat} {H : Hp} {n : Nat} {z : Nat} {x y : X} {l : List Ins} {e : Env} {Hc : Hp} {K : Env → Hp → Prop} {b off : Nat} {k : Blk} {c : Nat → SV}
    (hx : x.ev e = some (.s (.ptr b off))) (hy : y.ev e = some (.arr z c)) (hb : Hc.get b = some k) (ho : off + z ≤ k.size) (hnb : n ≤ b)
    (h : MS P N m H n l e (Hc.set b (splice k.c off z c)) K) : MS P N m H n (⟨none, none, .st z x y⟩ :: l) e Hc K := MS.stx hx hy hb ho hnb (fun _ _ => rfl) h

theorem MS.pv {N m : Nat} {H : Hp} {n : Nat} {d : Option Nat} {i : I} {l : List Ins} {e : Env} {Hc : Hp} {K : Env → Hp → Prop}
    (h : PV i e Hc fun v => MS P N m H n l (putD d v e) Hc K) : MS P N m H n (⟨d, none, i⟩ :: l) e Hc K := by
  intro ops l' hl a Ka hag he hf hK
  obtain ⟨o, r, hlo, ho, hr⟩ := mapM_cons_inv hl
  obtain ⟨v, hv, hrun⟩ := pv_sound hag (trOp_spec ho).1 h
  subst hlo
  obtain ⟨h1, h2, h3, h4⟩ := trOp_spec ho
  dsimp only at h1 h2 h3 h4
  exact ⟨h4, fun w0 w n' q1 q2 q3 => ⟨_, w, Hc, n', .inl (hrun _ _ _ q3), Nat.le_refl _, q3, he, (fun _ _ _ h => h), hv ops r hr _ Ka (by rw [h2]; exact hag.putD h3 v) he hf hK⟩⟩
end
end Go.V
