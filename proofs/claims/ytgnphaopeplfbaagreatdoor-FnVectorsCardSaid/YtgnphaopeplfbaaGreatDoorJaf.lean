/- Regions in an open order: pure operations at any time, calls and what makes blocks one after the other. -/
import Derived.Test.YtgnphaopeplfbaaGreatDoorJae
set_option linter.unusedSectionVars false
set_option linter.unusedVariables false
set_option linter.unusedSimpArgs false
namespace Go.V
variable [BW]
set_option linter.unusedSimpArgs false
set_option linter.unusedVariables false

theorem Ext.refl (H : Hp) : Ext H H := fun _ _ h => h
theorem Ext.trans {A B C : Hp} (h : Ext A B) (h2 : Ext B C) : Ext A C := fun b k hb => h2 b k (h b k hb)

section
variable {P : Program} {ops : Array Oper} {md : Region.Mode} {n m : Nat} {eff : Nat → Bool} {K : Act → Hp → Prop}

theorem qAt_mono {F F' : Hp} {o : Oper} {a : Act} {v : Value} (he : Ext F F') (h : qAt P F n o a v) : qAt P F' n o a v := by
  intro w0 w ⟨n', hn, hw⟩
  have h3 := h w w ⟨n', hn, hw.selfBase he⟩
  unfold Oper.quietAt at *
  generalize (execOp a.eval o).run P w = r at h3 ⊢
  cases r with
  | ok x w' =>
    cases x <;> simp only [Oper.quietUpon] at h3 ⊢
    case value u => exact h3
    case skip => exact h3
    case enter f args =>
      obtain ⟨e1, hc⟩ := h3
      exact ⟨e1, hc.mono fun e w'' ⟨he', n'', hn'', hw''⟩ => ⟨he', n'', hn'', hw.back he hw''⟩⟩
  | halt x w' => simp only [Oper.quietUpon] at h3

theorem YieldsM.grow {F F' : Hp} {o : Oper} {v : Value} {a : Act} (he : Ext F F') (h : YieldsM P ops F n o v a) : YieldsM P ops F' n o v a := by
  rcases h with ⟨h1, h2⟩ | h
  · exact .inl ⟨h1, qAt_mono he h2⟩
  · exact .inr h

def eRunO (P : Program) (n m : Nat) (o : Oper) (a : Act) (Hc F : Hp) (K : Value → Hp → Hp → Prop) : Prop :=
  ∀ w0 w n', n ≤ n' → w0.heap.size ≤ m → Mem w0 Hc n' w →
    (∃ v w' Hc' F' n'', ((execOp a.eval o).run P w = .ok (.value v) w' ∨ ((execOp a.eval o).run P w = .ok .skip w' ∧ v = undef)) ∧ n' ≤ n'' ∧ Mem w0 Hc' n'' w' ∧ Ext F F' ∧ Ext F' Hc' ∧ K v Hc' F') ∨
    (∃ f args, (execOp a.eval o).run P w = .ok (.enter f args) w ∧ Calls P f args w fun e w'' => ∃ v Hc' F' n'', e = .returned v ∧ n' ≤ n'' ∧ Mem w0 Hc' n'' w'' ∧ Ext F F' ∧ Ext F' Hc' ∧ K v Hc' F')

theorem eRunO.mono {o : Oper} {a : Act} {Hc F : Hp} {K K' : Value → Hp → Hp → Prop} (hK : ∀ v Hc' F', Ext F F' → K v Hc' F' → K' v Hc' F') (h : eRunO P n m o a Hc F K) : eRunO P n m o a Hc F K' := by
  intro w0 w n' h1 h2 h3
  rcases h w0 w n' h1 h2 h3 with ⟨v, w', Hc', F', n'', hr, q1, q2, q3, q4, q5⟩ | ⟨f, args, hr, hc⟩
  · exact .inl ⟨v, w', Hc', F', n'', hr, q1, q2, q3, q4, hK _ _ _ q3 q5⟩
  · exact .inr ⟨f, args, hr, hc.mono fun e w'' ⟨v, Hc', F', n'', q0, q1, q2, q3, q4, q5⟩ => ⟨v, Hc', F', n'', q0, q1, q2, q3, q4, hK _ _ _ q3 q5⟩⟩

def kOpO (P : Program) (ops : Array Oper) (n m : Nat) (eff : Nat → Bool) (i : Nat) (K : Act → Hp → Hp → Prop) (a : Act) (Hc F : Hp) : Prop :=
  match ops[i]? with
  | none => False
  | some o => if Region.wanted o (yielded ops a.tmps) then (if eff i = true then eRunO P n m o a Hc F (fun v Hc' F' => K (a.put o.dst v) Hc' F') else ∃ v, qAt P F n o a v ∧ K (a.put o.dst v) Hc F)
    else K (a.put o.dst undef) Hc F

def wpOrd (P : Program) (md : Region.Mode) (ops : Array Oper) (n m : Nat) (eff : Nat → Bool) (K : Act → Hp → Prop) : Nat → Array Bool → Act → Hp → Hp → Prop
  | 0, listed, a, Hc, F => Region.ready md ops listed = [] ∧ K a Hc
  | f + 1, listed, a, Hc, F => (Region.ready md ops listed = [] → K a Hc) ∧ ∀ i ∈ Region.ready md ops listed, kOpO P ops n m eff i (wpOrd P md ops n m eff K f (listed.setIfInBounds i true)) a Hc F

theorem wpAny_of_ord {w0 : World} (hm0 : w0.heap.size ≤ m) {Q' : Exit → Act → World → Prop} (hQ : ∀ a Hc n' w, K a Hc → n ≤ n' → Mem w0 Hc n' w → Q' .normal a w) :
    ∀ (f : Nat) (listed : Array Bool) (a : Act) (Hc F : Hp) (n' : Nat) (w : World), n ≤ n' → Ext F Hc → Mem w0 Hc n' w → wpOrd P md ops n m eff K f listed a Hc F → wpAny P md ops Q' f listed a w
  | 0, listed, a, Hc, F, n', w, hn, he, hw, h => ⟨h.1, hQ _ _ _ _ h.2 hn hw⟩
  | f + 1, listed, a, Hc, F, n', w, hn, he, hw, h => by
    refine ⟨fun h0 => hQ _ _ _ _ (h.1 h0) hn hw, fun i hi => ?_⟩
    have hk := h.2 i hi
    unfold kOpO at hk
    unfold wpOp
    split at hk
    · exact hk.elim
    · rename_i o ho
      simp only [ho]
      split at hk
      · rename_i hwant
        rw [if_pos hwant]
        refine .inl ?_
        split at hk
        · unfold Oper.wp
          rcases hk w0 w n' hn hm0 hw with ⟨v, w', Hc', F', n'', hrun, hn2, hm2, he1, he2, hk2⟩ | ⟨fn, args, hrun, hc⟩
          · rcases hrun with hrun | ⟨hrun, rfl⟩
            · rw [hrun]; simp only [Oper.upon]
              exact wpAny_of_ord hm0 hQ f _ _ Hc' F' n'' w' (by omega) he2 hm2 hk2
            · rw [hrun]; simp only [Oper.upon]
              exact wpAny_of_ord hm0 hQ f _ _ Hc' F' n'' w' (by omega) he2 hm2 hk2
          · rw [hrun]; simp only [Oper.upon]
            refine hc.mono fun e w'' ⟨v, Hc', F', n'', he', hn2, hm2, he1, he2, hk2⟩ => ?_
            subst he'
            exact wpAny_of_ord hm0 hQ f _ _ Hc' F' n'' w'' (by omega) he2 hm2 hk2
        · obtain ⟨v, hq, hk2⟩ := hk
          have h3 := hq w w ⟨n', hn, hw.selfBase he⟩
          unfold Oper.quietAt at h3
          unfold Oper.wp
          generalize (execOp a.eval o).run P w = r at h3
          cases r with
          | ok x w' =>
            cases x <;> simp only [Oper.quietUpon] at h3 <;> simp only [Oper.upon]
            case value u =>
              obtain ⟨e1, e2⟩ := h3
              rw [e1, e2]
              exact wpAny_of_ord hm0 hQ f _ _ Hc F n' w hn he hw hk2
            case skip =>
              obtain ⟨e1, e2⟩ := h3
              rw [e1, ← e2]
              exact wpAny_of_ord hm0 hQ f _ _ Hc F n' w hn he hw hk2
            case enter fn args =>
              obtain ⟨e1, hc⟩ := h3
              rw [e1]
              refine hc.mono fun e w'' ⟨he', n'', hn'', hw''⟩ => ?_
              subst he'
              exact wpAny_of_ord hm0 hQ f _ _ Hc F n'' w'' hn'' he (hw.back he hw'') hk2
          | halt x w' => simp only [Oper.quietUpon] at h3
      · rename_i hwant
        rw [if_neg hwant]
        exact wpAny_of_ord hm0 hQ f _ _ Hc F n' w hn he hw hk

theorem kOpO_mono {i : Nat} {a : Act} {Hc F : Hp} {K K' : Act → Hp → Hp → Prop} (h : ∀ a Hc F', Ext F F' → K a Hc F' → K' a Hc F') (hh : kOpO P ops n m eff i K a Hc F) : kOpO P ops n m eff i K' a Hc F := by
  unfold kOpO at *
  split
  · rename_i ho; simp only [ho] at hh
  · rename_i o ho
    simp only [ho] at hh
    split
    · rename_i hw; rw [if_pos hw] at hh
      split
      · rename_i he; rw [if_pos he] at hh
        exact hh.mono fun v Hc' F' hx hk => h _ _ _ hx hk
      · rename_i he; rw [if_neg he] at hh; obtain ⟨v, h1, h2⟩ := hh; exact ⟨v, h1, h _ _ _ (Ext.refl _) h2⟩
    · rename_i hw; rw [if_neg hw] at hh; exact h _ _ _ (Ext.refl _) hh

theorem YieldsM.kOpO {i : Nat} {o : Oper} {v : Value} {a : Act} {Hc F : Hp} {K : Act → Hp → Hp → Prop} (hi : ops[i]? = some o) (hf : eff i = false) (hy : YieldsM P ops F n o v a) (h : K (a.put o.dst v) Hc F) : kOpO P ops n m eff i K a Hc F := by
  unfold V.kOpO
  simp only [hi, hf, Bool.false_eq_true, if_false]
  rcases hy with ⟨hw, hv⟩ | ⟨hw, rfl⟩
  · rw [if_pos hw]; exact ⟨v, hv, h⟩
  · rw [if_neg (by simp [hw])]; exact h

theorem yieldsM_of_kOpO {i : Nat} {o : Oper} {a : Act} {Hc F : Hp} {K : Act → Hp → Hp → Prop} (hi : ops[i]? = some o) (hf : eff i = false) (h : kOpO P ops n m eff i K a Hc F) : ∃ v, YieldsM P ops F n o v a ∧ K (a.put o.dst v) Hc F := by
  unfold kOpO at h
  simp only [hi, hf, Bool.false_eq_true, if_false] at h
  by_cases hw : Region.wanted o (yielded ops a.tmps) = true
  · rw [if_pos hw] at h
    obtain ⟨v, h1, h2⟩ := h
    exact ⟨v, .inl ⟨hw, h1⟩, h2⟩
  · rw [if_neg hw] at h
    exact ⟨undef, .inr ⟨by simpa using hw, rfl⟩, h⟩

theorem kOpO_put {j : Nat} {oi oj : Oper} {v : Value} (hj : ops[j]? = some oj) (hap : oi.apart ops oj = true)
    (hsi : ∀ cs b, oi.op ≠ .select cs b) (hsj : ∀ cs b, oj.op ≠ .select cs b) {K : Act → Hp → Hp → Prop} {a : Act} {Hc F : Hp}
    (hy : YieldsM P ops F n oi v a) (h : kOpO P ops n m eff j K (a.put oi.dst v) Hc F) :
    kOpO P ops n m eff j (fun a' Hc' F' => YieldsM P ops F' n oi v a' ∧ K (a'.put oi.dst v) Hc' F') a Hc F := by
  obtain ⟨h1, h2, h3⟩ := Oper.apart_spec hap
  have keep : ∀ (a : Act) (F' : Hp), YieldsM P ops F' n oi v a → ∀ u, YieldsM P ops F' n oi v (a.put oj.dst u) := fun a F' hy u =>
    hy.of_same (execOp_put oi hsi a oj.dst u h3) (wanted_put oi a oj.dst u h3)
  unfold kOpO at *
  simp only [hj] at *
  rw [wanted_put oj a oi.dst v h1] at h
  split
  · rename_i hw
    rw [if_pos hw] at h
    split
    · rename_i hf
      rw [if_pos hf] at h
      intro w0 w n' q1 q2 q3
      have hr := h w0 w n' q1 q2 q3
      rw [execOp_put oj hsj a oi.dst v h1] at hr
      rcases hr with ⟨u, w', Hc', F', n'', hrun, p1, p2, p3, p4, p5⟩ | ⟨fn, args, hrun, hc⟩
      · exact .inl ⟨u, w', Hc', F', n'', hrun, p1, p2, p3, p4, keep a F' (hy.grow p3) u, by rw [← Act.put_comm a v u h2]; exact p5⟩
      · exact .inr ⟨fn, args, hrun, hc.mono fun e w'' ⟨u, Hc', F', n'', p0, p1, p2, p3, p4, p5⟩ => ⟨u, Hc', F', n'', p0, p1, p2, p3, p4, keep a F' (hy.grow p3) u, by rw [← Act.put_comm a v u h2]; exact p5⟩⟩
    · rename_i hf
      rw [if_neg hf] at h
      obtain ⟨u, hu, hn⟩ := h
      refine ⟨u, fun w0 w hw' => ?_, keep a F hy u, by rw [← Act.put_comm a v u h2]; exact hn⟩
      have := hu w0 w hw'
      unfold Oper.quietAt at *
      rwa [execOp_put oj hsj a oi.dst v h1] at this
  · rename_i hw
    rw [if_neg hw] at h
    exact ⟨keep a F hy _, by rw [← Act.put_comm a v undef h2]; exact h⟩

theorem wpOrd_first {i : Nat} {oi : Oper} {v : Value} (hi : ops[i]? = some oi) (hfi : eff i = false) (hsel : ∀ (j : Nat) (o : Oper) cs b, ops[j]? = some o → o.op ≠ .select cs b) :
    ∀ (fuel : Nat) (listed : Array Bool) (a : Act) (Hc F : Hp),
      (∀ j oj, ops[j]? = some oj → j ≠ i → listed.getD j true = false → (∀ e ∈ oj.after, Region.binds md e = true → e.on ≠ i) → oi.apart ops oj = true) →
      i ∈ Region.ready md ops listed → YieldsM P ops F n oi v a →
      wpOrd P md ops n m eff K fuel (listed.setIfInBounds i true) (a.put oi.dst v) Hc F → wpOrd P md ops n m eff K (fuel + 1) listed a Hc F := by
  intro fuel
  induction fuel with
  | zero =>
    intro listed a Hc F _ hr hy hh
    refine ⟨fun h => (by rw [h] at hr; cases hr), fun j hj => ?_⟩
    by_cases hji : j = i
    · subst hji; exact hy.kOpO hi hfi hh
    · have := ready_mono hj hji
      rw [hh.1] at this
      cases this
  | succ fuel ih =>
    intro listed a Hc F hfree hr hy hh
    refine ⟨fun h => (by rw [h] at hr; cases hr), fun j hj => ?_⟩
    by_cases hji : j = i
    · subst hji; exact hy.kOpO hi hfi hh
    · have h1 := hh.2 j (ready_mono hj hji)
      obtain ⟨hjun, oj, hoj, hall⟩ := mem_ready.1 hj
      have hnot : ∀ e ∈ oj.after, Region.binds md e = true → e.on ≠ i := fun e he hb heq => by
        have h1 := hall e he hb
        have h0 := (mem_ready.1 hr).1
        rw [heq] at h1
        rcases Nat.lt_or_ge i listed.size with h' | h'
        · simp [h'] at h0 h1; rw [h0] at h1; cases h1
        · simp [Array.getElem?_eq_none h'] at h1
      have h2 := kOpO_put hoj (hfree j oj hoj hji hjun hnot) (fun cs b => hsel i oi cs b hi) (fun cs b => hsel j oj cs b hoj) hy h1
      have hfree' : ∀ k ok, ops[k]? = some ok → k ≠ i → (listed.setIfInBounds j true).getD k true = false →
          (∀ e ∈ ok.after, Region.binds md e = true → e.on ≠ i) → oi.apart ops ok = true := fun k ok hk hki hun hno => by
        refine hfree k ok hk hki ?_ hno
        by_cases hjk : j = k
        · subst hjk; exact hjun
        · rw [getD_set_ne true hjk] at hun; exact hun
      refine kOpO_mono (fun a' Hc' F' _ h3 => ih (listed.setIfInBounds j true) a' Hc' F' hfree' (ready_mono hr (Ne.symm hji)) h3.1 ?_) h2
      rw [Array.setIfInBounds_comm _ _ hji]
      exact h3.2

def ordB (md : Region.Mode) (ops : Array Oper) (eff : Nat → Bool) : List Nat → Array Bool → Bool
  | [], listed => (Region.ready md ops listed).isEmpty
  | k :: r, listed => (if eff k = true then decide (Region.ready md ops listed = [k]) else (Region.ready md ops listed).contains k && Region.free md ops listed k) && ordB md ops eff r (listed.setIfInBounds k true)

def wpO (P : Program) (ops : Array Oper) (n m : Nat) (eff : Nat → Bool) (K : Act → Hp → Hp → Prop) : List Nat → Act → Hp → Hp → Prop
  | [], a, Hc, F => K a Hc F
  | k :: r, a, Hc, F => kOpO P ops n m eff k (wpO P ops n m eff K r) a Hc F

theorem ord_walk (hs : Region.noSelect ops = true) : ∀ (ks : List Nat) (listed : Array Bool) (a : Act) (Hc F : Hp), ordB md ops eff ks listed = true →
    wpO P ops n m eff (fun a Hc _ => K a Hc) ks a Hc F → wpOrd P md ops n m eff K ks.length listed a Hc F
  | [], listed, a, Hc, F, hB, h => ⟨by simpa [ordB] using hB, h⟩
  | k :: r, listed, a, Hc, F, hB, h => by
    simp only [ordB, Bool.and_eq_true] at hB
    obtain ⟨hB1, hB2⟩ := hB
    cases he : eff k with
    | true =>
      rw [if_pos he] at hB1
      simp only [decide_eq_true_eq] at hB1
      refine ⟨fun h1 => (by rw [hB1] at h1; cases h1), fun i hi => ?_⟩
      rw [hB1] at hi
      have hik : i = k := by simpa using hi
      subst hik
      exact kOpO_mono (fun a' Hc' F' _ h' => ord_walk hs r _ a' Hc' F' hB2 h') h
    | false =>
      rw [if_neg (by simp [he])] at hB1
      simp only [Bool.and_eq_true] at hB1
      obtain ⟨hr, hfr⟩ := hB1
      have hk : kOpO P ops n m eff k (wpO P ops n m eff (fun a Hc _ => K a Hc) r) a Hc F := h
      cases ho : ops[k]? with
      | none => unfold kOpO at hk; simp only [ho] at hk
      | some o =>
        obtain ⟨v, hy, hK⟩ := yieldsM_of_kOpO ho he hk
        exact wpOrd_first ho he (Region.noSelect_spec hs) _ listed a Hc F (Region.free_spec ho hfr) (by simpa using hr) hy (ord_walk hs r _ _ Hc F hB2 hK)

theorem wp_region_ord {id : Nat} {Q : Exit → Act → World → Prop} {a : Act} {w0 w : World} {H : Hp} {ks : List Nat} (hm : P.follows .mixedOrders = true) (hs : Region.noSelect ops = true)
    (hB : ordB .any ops eff ks (Array.replicate ops.size false) = true) (hl : ks.length = ops.size)
    (hsz : w0.heap.size ≤ m) (hw : Mem w0 H n w) (hK : ∀ a Hc n' w, K a Hc → n ≤ n' → Mem w0 Hc n' w → Q .normal a w)
    (h : wpO P ops n m eff (fun a Hc _ => K a Hc) ks a H H) : (Code.region id ops true).wp P Q a w := by
  refine wp_region_any hm ?_
  have key := ord_walk (md := .any) hs ks (Array.replicate ops.size false) a H H hB h
  rw [hl] at key
  exact wpAny_of_ord (w0 := w0) hsz hK _ _ _ H H n _ (Nat.le_refl _) (Ext.refl _) (hw.drew _) key

/-! ### Where two effects may come first: a tree of orders -/
inductive OT where
  | done
  | seg (k : Nat) (t : OT)
  | fork (t1 t2 : OT)
  deriving Inhabited

def ordT (md : Region.Mode) (ops : Array Oper) (eff : Nat → Bool) : OT → Array Bool → Bool
  | .done, listed => (Region.ready md ops listed).isEmpty
  | .seg k t, listed => (if eff k = true then decide (Region.ready md ops listed = [k]) else (Region.ready md ops listed).contains k && Region.free md ops listed k) && ordT md ops eff t (listed.setIfInBounds k true)
  | .fork (.seg k1 t1) (.seg k2 t2), listed => decide (Region.ready md ops listed = [k1, k2]) && ordT md ops eff t1 (listed.setIfInBounds k1 true) && ordT md ops eff t2 (listed.setIfInBounds k2 true)
  | .fork _ _, _ => false

def wpT (P : Program) (ops : Array Oper) (n m : Nat) (eff : Nat → Bool) (K : Act → Hp → Hp → Prop) : OT → Act → Hp → Hp → Prop
  | .done, a, Hc, F => K a Hc F
  | .seg k t, a, Hc, F => kOpO P ops n m eff k (wpT P ops n m eff K t) a Hc F
  | .fork t1 t2, a, Hc, F => wpT P ops n m eff K t1 a Hc F ∧ wpT P ops n m eff K t2 a Hc F

/-- The longest way through a tree. -/
def OT.len : OT → Nat
  | .done => 0
  | .seg _ t => t.len + 1
  | .fork t1 t2 => max t1.len t2.len

theorem wpOrd_empty {listed : Array Bool} {a : Act} {Hc F : Hp} (h0 : Region.ready md ops listed = []) (h : K a Hc) : ∀ (f : Nat), wpOrd P md ops n m eff K f listed a Hc F
  | 0 => ⟨h0, h⟩
  | f + 1 => ⟨fun _ => h, fun i hi => by rw [h0] at hi; cases hi⟩

theorem tree_walk (hs : Region.noSelect ops = true) : ∀ (t : OT) (f : Nat) (listed : Array Bool) (a : Act) (Hc F : Hp), t.len ≤ f → ordT md ops eff t listed = true →
    wpT P ops n m eff (fun a Hc _ => K a Hc) t a Hc F → wpOrd P md ops n m eff K f listed a Hc F
  | .done, f, listed, a, Hc, F, _, hB, h => wpOrd_empty (by simpa [ordT] using hB) h f
  | .seg k t, 0, listed, a, Hc, F, hl, hB, h => by simp [OT.len] at hl
  | .seg k t, f + 1, listed, a, Hc, F, hl, hB, h => by
    simp only [ordT, Bool.and_eq_true] at hB
    obtain ⟨hB1, hB2⟩ := hB
    have hl' : t.len ≤ f := by simp only [OT.len] at hl; omega
    cases he : eff k with
    | true =>
      rw [if_pos he] at hB1
      simp only [decide_eq_true_eq] at hB1
      refine ⟨fun h1 => (by rw [hB1] at h1; cases h1), fun i hi => ?_⟩
      rw [hB1] at hi
      have hik : i = k := by simpa using hi
      subst hik
      exact kOpO_mono (fun a' Hc' F' _ h' => tree_walk hs t f _ a' Hc' F' hl' hB2 h') h
    | false =>
      rw [if_neg (by simp [he])] at hB1
      simp only [Bool.and_eq_true] at hB1
      obtain ⟨hr, hfr⟩ := hB1
      have hk : kOpO P ops n m eff k (wpT P ops n m eff (fun a Hc _ => K a Hc) t) a Hc F := h
      cases ho : ops[k]? with
      | none => unfold kOpO at hk; simp only [ho] at hk
      | some o =>
        obtain ⟨v, hy, hK⟩ := yieldsM_of_kOpO ho he hk
        exact wpOrd_first ho he (Region.noSelect_spec hs) _ listed a Hc F (Region.free_spec ho hfr) (by simpa using hr) hy (tree_walk hs t f _ _ Hc F hl' hB2 hK)
  | .fork (.seg k1 t1) (.seg k2 t2), 0, listed, a, Hc, F, hl, hB, h => by simp only [OT.len] at hl; omega
  | .fork (.seg k1 t1) (.seg k2 t2), f + 1, listed, a, Hc, F, hl, hB, h => by
    simp only [ordT, Bool.and_eq_true, decide_eq_true_eq] at hB
    obtain ⟨⟨hB0, hB1⟩, hB2⟩ := hB
    have hl1 : t1.len ≤ f := by simp only [OT.len] at hl; omega
    have hl2 : t2.len ≤ f := by simp only [OT.len] at hl; omega
    refine ⟨fun h1 => (by rw [hB0] at h1; cases h1), fun i hi => ?_⟩
    rw [hB0] at hi
    have hik : i = k1 ∨ i = k2 := by simpa using hi
    rcases hik with rfl | rfl
    · exact kOpO_mono (fun a' Hc' F' _ h' => tree_walk hs t1 f _ a' Hc' F' hl1 hB1 h') h.1
    · exact kOpO_mono (fun a' Hc' F' _ h' => tree_walk hs t2 f _ a' Hc' F' hl2 hB2 h') h.2
  | .fork .done t2, _, _, _, _, _, _, hB, _ => by simp [ordT] at hB
  | .fork (.fork _ _) t2, _, _, _, _, _, _, hB, _ => by simp [ordT] at hB
  | .fork (.seg _ _) .done, _, _, _, _, _, _, hB, _ => by simp [ordT] at hB
  | .fork (.seg _ _) (.fork _ _), _, _, _, _, _, _, hB, _ => by simp [ordT] at hB

theorem wp_region_tree {id : Nat} {Q : Exit → Act → World → Prop} {a : Act} {w0 w : World} {H : Hp} {t : OT} (hm : P.follows .mixedOrders = true) (hs : Region.noSelect ops = true)
    (hB : ordT .any ops eff t (Array.replicate ops.size false) = true) (hl : t.len ≤ ops.size)
    (hsz : w0.heap.size ≤ m) (hw : Mem w0 H n w) (hK : ∀ a Hc n' w, K a Hc → n ≤ n' → Mem w0 Hc n' w → Q .normal a w)
    (h : wpT P ops n m eff (fun a Hc _ => K a Hc) t a H H) : (Code.region id ops true).wp P Q a w := by
  refine wp_region_any hm ?_
  have key := tree_walk (md := .any) hs t ops.size (Array.replicate ops.size false) a H H hl hB h
  exact wpAny_of_ord (w0 := w0) hsz hK _ _ _ H H n _ (Nat.le_refl _) (Ext.refl _) (hw.drew _) key
end

/-! ### Lists -/
section
variable {P : Program}

/-- What stands in the list is what the operations of these numbers come to. -/
def OMatch (P : Program) (N : Nat) (ops : Array Oper) (eff : Nat → Bool) (isE : I → Bool) : List Nat → List Ins → Prop
  | [], [] => True
  | k :: ks, x :: xs => (∃ o, ops[k]? = some o ∧ trOp P N ops o = some x ∧ eff k = isE x.i) ∧ OMatch P N ops eff isE ks xs
  | _, _ => False

def isCall : I → Bool
  | .new .. | .box .. | .bsl .. | .st .. | .app .. | .cpy .. | .mks .. | .call .. | .callv .. => true
  | _ => false

/-- Pure operations at any time, calls one after the other; each call keeps what is there. -/
def OS0 (P : Program) (N m : Nat) (l : List Ins) (e : Env) (H : Hp) (n : Nat) (K : Env → Hp → Prop) : Prop :=
  ∀ (ops : Array Oper) (ks : List Nat) (eff : Nat → Bool), OMatch P N ops eff isCall ks l → ∀ (a : Act) (Ka : Act → Hp → Hp → Prop), Ag N e a →
    (∀ e' a' H', K e' H' → Ag N e' a' → Ka a' H' H') → wpO P ops n m eff Ka ks a H H

/-- The same, of whose first operation it is known that it runs. -/
def OS1 (P : Program) (N m : Nat) (d : Option Nat) (i : I) (l : List Ins) (e : Env) (H : Hp) (n : Nat) (K : Env → Hp → Prop) : Prop :=
  ∀ (ops : Array Oper) (k : Nat) (ks : List Nat) (eff : Nat → Bool) (o : Oper), ops[k]? = some o → trI P o.type o.op = some i → o.dst = d → (∀ t, d = some t → t < N) → eff k = isCall i → OMatch P N ops eff isCall ks l →
    ∀ (a : Act) (Ka : Act → Hp → Hp → Prop), Ag N e a → Region.wanted o (yielded ops a.tmps) = true → (∀ e' a' H', K e' H' → Ag N e' a' → Ka a' H' H') → wpO P ops n m eff Ka (k :: ks) a H H

def OS (P : Program) (N m : Nat) (l : List Ins) (e : Env) (H : Hp) (n : Nat) (K : Env → Hp → Prop) : Prop :=
  match l with
  | ⟨d, none, i⟩ :: r => OS1 P N m d i r e H n K
  | l => OS0 P N m l e H n K

theorem OS.zero {N m : Nat} {l : List Ins} {e : Env} {H : Hp} {n : Nat} {K : Env → Hp → Prop} (h : OS P N m l e H n K) : OS0 P N m l e H n K := by
  match l, h with
  | [], h => exact h
  | ⟨d, some g, i⟩ :: r, h => exact h
  | ⟨d, none, i⟩ :: r, h =>
    intro ops ks eff hm a Ka hag hK
    cases ks with
    | nil => exact hm.elim
    | cons k ks =>
      obtain ⟨⟨o, ho, htr, hef⟩, hm2⟩ := hm
      obtain ⟨h1, h2, h3, h4⟩ := trOp_spec htr
      exact h ops k ks eff o ho h1 h2 h3 hef hm2 a Ka hag (wanted_none h4) hK

theorem OS.nil {N m : Nat} {e : Env} {H : Hp} {n : Nat} {K : Env → Hp → Prop} (h : K e H) : OS P N m [] e H n K := by
  intro ops ks eff hm a Ka hag hK
  cases ks with
  | nil => exact hK _ _ _ h hag
  | cons k ks => exact hm.elim

theorem OS.skip {N m : Nat} {d : Option Nat} {t : Nat} {b : Bool} {v : AV} {i : I} {l : List Ins} {e : Env} {H : Hp} {n : Nat} {K : Env → Hp → Prop}
    (hg : e.get t = some v) (hv : isB v b = false) (h : OS P N m l (putD d .undef e) H n K) : OS P N m (⟨d, some (t, b), i⟩ :: l) e H n K := by
  intro ops ks eff hm a Ka hag hK
  cases ks with
  | nil => exact hm.elim
  | cons k ks =>
    obtain ⟨⟨o, ho, htr, hef⟩, hm2⟩ := hm
    obtain ⟨h1, h2, h3, j, hj, ht⟩ := trOp_spec htr
    dsimp only at h1 h2 h3 hj ht
    have hw' : Region.wanted o (yielded ops a.tmps) = false := by rw [wanted_some hag hj ht hg]; exact hv
    unfold wpO kOpO
    simp only [ho]
    rw [if_neg (by simp [hw'])]
    exact h.zero ops ks eff hm2 _ Ka (by rw [h2]; exact hag.putD h3 .undef) hK

theorem OS.gyes1 {N m : Nat} {d : Option Nat} {g : Nat × Bool} {i : I} {l : List Ins} {e : Env} {H : Hp} {n : Nat} {K : Env → Hp → Prop}
    (hg : e.get g.1 = some (.s (.bool g.2))) (h : OS P N m (⟨d, none, i⟩ :: l) e H n K) : OS P N m (⟨d, some g, i⟩ :: l) e H n K := by
  intro ops ks eff hm a Ka hag hK
  cases ks with
  | nil => exact hm.elim
  | cons k ks =>
    obtain ⟨⟨o, ho, htr, hef⟩, hm2⟩ := hm
    obtain ⟨h1, h2, h3, j, hj, ht⟩ := trOp_spec htr
    dsimp only at h1 h2 h3 hj ht
    exact h ops k ks eff o ho h1 h2 h3 hef hm2 a Ka hag (by rw [wanted_some hag hj ht hg]; simp [isB]) hK

theorem PV_pure {i : I} {e : Env} {H : Hp} {K : AV → Prop} (h : PV i e H K) : isCall i = false := by
  cases i <;> first | rfl | exact h.elim

theorem OS.pure {N m : Nat} {d : Option Nat} {i : I} {l : List Ins} {e : Env} {H : Hp} {n : Nat} {K : Env → Hp → Prop}
    (h : PV i e H fun v => OS P N m l (putD d v e) H n K) : OS P N m (⟨d, none, i⟩ :: l) e H n K := by
  intro ops k ks eff o ho h1 h2 h3 hef hm2 a Ka hag hw' hK
  obtain ⟨v, hv, hrun⟩ := pv_sound hag h1 h
  unfold wpO kOpO
  simp only [ho]
  rw [if_pos hw', if_neg (by rw [hef, PV_pure h]; simp)]
  refine ⟨v.conc, fun w0 w ⟨n', hn, hw⟩ => ?_, hv.zero ops ks eff hm2 _ Ka (by rw [h2]; exact hag.putD h3 v) hK⟩
  unfold Oper.quietAt
  rw [hrun _ _ _ hw]
  exact ⟨rfl, rfl⟩

theorem OS.call {N m : Nat} {d : Option Nat} {f : FuncId} {args : List X} {l : List Ins} {e : Env} {H : Hp} {n : Nat} {K : Env → Hp → Prop} {vs : List AV} {R : AV → Hp → Prop}
    (hv : evs e args = some vs) (hf : ∀ n', n ≤ n' → (∀ b k, H.get b = some k → b < n') → FnS P f vs H n' fun r H' n'' => R r H' ∧ Ext H H')
    (h : ∀ r H', R r H' → Ext H H' → OS P N m l (putD d r e) H' n K) : OS P N m (⟨d, none, .call f args⟩ :: l) e H n K := by
  intro ops k ks eff o ho h1 h2 h3 hef hm2 a Ka hag hw' hK
  unfold wpO kOpO
  simp only [ho]
  rw [if_pos hw', if_pos (by rw [hef]; rfl)]
  intro w0 w n' q1 q2 q3
  obtain ⟨dst, op, ty, pos, after, guard⟩ := o
  dsimp only at h1 h2 h3
  obtain ⟨c, rfl, hcal, hargs⟩ := inv_call h1
  have e1 := evs_spec hag _ _ _ hargs hv
  have e1' : c.args.map a.eval = (AV.concs vs).toArray := Array.toList_inj.1 (by rw [Array.toList_map]; exact e1)
  refine .inr ⟨f, (AV.concs vs).toArray, ?_, ((hf n' q1 fun b k hb => q3.lt hb).2 w0 w q3).mono ?_⟩
  · simp [execOp, resolve, hcal, Act.eval, Deferred.ofValue, invoke, run_callFunc (hf n' q1 fun b k hb => q3.lt hb).1, e1']
  · rintro e' w' ⟨r, H', n2, rfl, hn2, hm', hR, hE⟩
    exact ⟨r.conc, H', H', n2, rfl, hn2, hm', hE, Ext.refl _, (h r H' hR hE).zero ops ks eff hm2 _ Ka (by rw [h2]; exact hag.putD h3 r) hK⟩

theorem OS.bsl {N m : Nat} {d : Option Nat} {t : TypeId} {len sz : Nat} {z : Zs} {ps : List (Nat × Nat × X)} {l : List Ins} {e : Env} {H : Hp} {n : Nat} {K : Env → Hp → Prop} {c : Nat → SV}
    (hp : placeAll e ps (fun i => z.c (i % sz)) = some c) (h : ∀ b, n ≤ b → (∀ b' k, H.get b' = some k → b' < b) → OS P N m l (putD d (.s (.slc b 0 len len)) e) ((b, ⟨len * sz, c, t⟩) :: H) n K) : OS P N m (⟨d, none, .bsl t len sz z ps⟩ :: l) e H n K := by
  intro ops k ks eff o ho h1 h2 h3 hef hm2 a Ka hag hw' hK
  unfold wpO kOpO
  simp only [ho]
  rw [if_pos hw', if_pos (by rw [hef]; rfl)]
  intro w0 w n' q1 q2 q3
  obtain ⟨w', hrun, hm'⟩ := run_bsl h1 q3 hag hp
  refine .inl ⟨_, w', (n', ⟨len * sz, c, t⟩) :: H, (n', ⟨len * sz, c, t⟩) :: H, n' + 1, .inl hrun, Nat.le_succ _, hm', ?_, Ext.refl _, ?_⟩
  · intro b k hb
    have := q3.lt hb
    rw [Hp.get_ne _ _ (by omega)]; exact hb
  · exact (h n' q1 fun b k hb => q3.lt hb).zero ops ks eff hm2 _ Ka (by rw [h2]; exact hag.putD h3 (.s (.slc n' 0 len len))) hK

/-- The leading steps of a tree, and what comes behind them. -/
def OT.os : OT → List Nat
  | .seg k t => k :: t.os
  | _ => []
def OT.rest : OT → OT
  | .seg _ t => t.rest
  | t => t
def OT.under (z : Nat) : OT → Bool
  | .done => true
  | .seg k t => decide (k < z) && t.under z
  | .fork t1 t2 => t1.under z && t2.under z
theorem wpT_os {ops : Array Oper} {n m : Nat} {eff : Nat → Bool} {K : Act → Hp → Hp → Prop} : ∀ (t : OT) (a : Act) (Hc F : Hp), wpO P ops n m eff (wpT P ops n m eff K t.rest) t.os a Hc F → wpT P ops n m eff K t a Hc F
  | .done, a, Hc, F, h => h
  | .fork _ _, a, Hc, F, h => h
  | .seg k t, a, Hc, F, h => kOpO_mono (fun a' Hc' F' _ h' => wpT_os t a' Hc' F' h') h
theorem OT.under_os {z : Nat} : ∀ {t : OT}, t.under z = true → (∀ k ∈ t.os, k < z) ∧ t.rest.under z = true
  | .done, h => ⟨fun k hk => by simp [OT.os] at hk, h⟩
  | .fork _ _, h => ⟨fun k hk => by simp [OT.os] at hk, h⟩
  | .seg k t, h => by
    simp only [OT.under, Bool.and_eq_true, decide_eq_true_eq] at h
    obtain ⟨h1, h2⟩ := OT.under_os h.2
    exact ⟨fun j hj => by
      simp only [OT.os, List.mem_cons] at hj
      rcases hj with rfl | hj
      · exact h.1
      · exact h1 j hj, h2⟩

/-- What stands in the list is what the operations come to. -/
def LMatch (P : Program) (N : Nat) (ops : Array Oper) (eff : Nat → Bool) (l : List Ins) : Prop := ∀ os : List Nat, (∀ k ∈ os, k < l.length) → OMatch P N ops eff isCall os (pick os l)
/-- The orders of a tree, one after the other. -/
def OTS (P : Program) (N m : Nat) (l : List Ins) (t : OT) (e : Env) (H : Hp) (n : Nat) (K : Env → Hp → Prop) : Prop :=
  ∀ (ops : Array Oper) (eff : Nat → Bool), LMatch P N ops eff l → t.under l.length = true → ∀ (a : Act) (Ka : Act → Hp → Hp → Prop), Ag N e a →
    (∀ e' a' H', K e' H' → Ag N e' a' → Ka a' H' H') → wpT P ops n m eff Ka t a H H
theorem OTS.done {N m : Nat} {l : List Ins} {e : Env} {H : Hp} {n : Nat} {K : Env → Hp → Prop} (h : K e H) : OTS P N m l .done e H n K :=
  fun ops eff hl hb a Ka hag hK => hK _ _ _ h hag
theorem OTS.fork {N m : Nat} {l : List Ins} {t1 t2 : OT} {e : Env} {H : Hp} {n : Nat} {K : Env → Hp → Prop} (h1 : OTS P N m l t1 e H n K) (h2 : OTS P N m l t2 e H n K) : OTS P N m l (.fork t1 t2) e H n K :=
  fun ops eff hl hb a Ka hag hK => by
    simp only [OT.under, Bool.and_eq_true] at hb
    exact ⟨h1 ops eff hl hb.1 a Ka hag hK, h2 ops eff hl hb.2 a Ka hag hK⟩
theorem OTS.segs {N m : Nat} {l : List Ins} {t : OT} {e : Env} {H : Hp} {n : Nat} {K : Env → Hp → Prop} (h : OS P N m (pick t.os l) e H n fun e' H' => OTS P N m l t.rest e' H' n K) : OTS P N m l t e H n K :=
  fun ops eff hl hb a Ka hag hK => by
    obtain ⟨h1, h2⟩ := OT.under_os hb
    exact wpT_os t a H H (h.zero ops t.os eff (hl _ h1) a _ hag fun e' a' H' hk hag' => hk ops eff hl h2 a' Ka hag' hK)

theorem OS.same {N m : Nat} {l : List Ins} {e e1 : Env} {H : Hp} {n : Nat} {K : Env → Hp → Prop} (hl : ∀ (a : Act), Ag N e a → Ag N e1 a) (h : OS P N m l e1 H n K) : OS P N m l e H n K := by
  match l, h with
  | [], h => exact fun ops ks eff hm a Ka hag hK => h ops ks eff hm a Ka (hl a hag) hK
  | ⟨d, some g, i⟩ :: r, h => exact fun ops ks eff hm a Ka hag hK => h ops ks eff hm a Ka (hl a hag) hK
  | ⟨d, none, i⟩ :: r, h => exact fun ops k ks eff o ho h1 h2 h3 hef hm2 a Ka hag hw hK => h ops k ks eff o ho h1 h2 h3 hef hm2 a Ka (hl a hag) hw hK
end
end Go.V
