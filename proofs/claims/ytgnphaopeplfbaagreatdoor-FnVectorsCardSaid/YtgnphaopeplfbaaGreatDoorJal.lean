/- Regions in an open order whose effects come one after the other: reads keep to what no effect before the last one touches. -/
import Derived.Test.YtgnphaopeplfbaaGreatDoorJak
import Derived.Test.YtgnphaopeplfbaaGreatDoorJac
import Derived.WalkKit
import Derived.ProofKit
import Derived.OpenShut
set_option linter.unusedSectionVars false
set_option linter.unusedVariables false
set_option linter.unusedSimpArgs false
namespace Go.V
variable [BW]
set_option linter.unusedSimpArgs false
set_option linter.unusedVariables false
section
variable {P : Program} {ops : Array Oper} {md : Region.Mode} {n m : Nat} {eff : Nat → Bool} {z : Nat} {K : Act → Hp → Prop}

def eRunZ (P : Program) (n m : Nat) (t : Bool) (o : Oper) (a : Act) (Hc F : Hp) (K : Value → Hp → Hp → Prop) : Prop :=
  ∀ w0 w n', n ≤ n' → w0.heap.size ≤ m → Mem w0 Hc n' w →
    (∃ v w' Hc' F' n'', ((execOp a.eval o).run P w = .ok (.value v) w' ∨ ((execOp a.eval o).run P w = .ok .skip w' ∧ v = undef)) ∧ n' ≤ n'' ∧ Mem w0 Hc' n'' w' ∧ (t = false → Ext F F') ∧ Ext F' Hc' ∧ K v Hc' F') ∨
    (∃ f args, (execOp a.eval o).run P w = .ok (.enter f args) w ∧ Calls P f args w fun e w'' => ∃ v Hc' F' n'', e = .returned v ∧ n' ≤ n'' ∧ Mem w0 Hc' n'' w'' ∧ (t = false → Ext F F') ∧ Ext F' Hc' ∧ K v Hc' F')
theorem eRunZ.mono {t : Bool} {o : Oper} {a : Act} {Hc F : Hp} {K K' : Value → Hp → Hp → Prop} (hK : ∀ v Hc' F', (t = false → Ext F F') → K v Hc' F' → K' v Hc' F') (h : eRunZ P n m t o a Hc F K) : eRunZ P n m t o a Hc F K' := by
  intro w0 w n' h1 h2 h3
  rcases h w0 w n' h1 h2 h3 with ⟨v, w', Hc', F', n'', hr, q1, q2, q3, q4, q5⟩ | ⟨f, args, hr, hc⟩
  · exact .inl ⟨v, w', Hc', F', n'', hr, q1, q2, q3, q4, hK _ _ _ q3 q5⟩
  · exact .inr ⟨f, args, hr, hc.mono fun e w'' ⟨v, Hc', F', n'', q0, q1, q2, q3, q4, q5⟩ => ⟨v, Hc', F', n'', q0, q1, q2, q3, q4, hK _ _ _ q3 q5⟩⟩

def kOpZ (P : Program) (ops : Array Oper) (n m : Nat) (eff : Nat → Bool) (z i : Nat) (K : Act → Hp → Hp → Prop) (a : Act) (Hc F : Hp) : Prop :=
  match ops[i]? with
  | none => False
  | some o => if Region.wanted o (yielded ops a.tmps) then (if eff i = true then eRunZ P n m (i == z) o a Hc F (fun v Hc' F' => K (a.put o.dst v) Hc' F') else ∃ v, qAt P F n o a v ∧ K (a.put o.dst v) Hc F)
    else K (a.put o.dst undef) Hc F

def wpOrdZ (P : Program) (md : Region.Mode) (ops : Array Oper) (n m : Nat) (eff : Nat → Bool) (z : Nat) (K : Act → Hp → Prop) : Nat → Array Bool → Act → Hp → Hp → Prop
  | 0, listed, a, Hc, F => Region.ready md ops listed = [] ∧ K a Hc
  | f + 1, listed, a, Hc, F => (Region.ready md ops listed = [] → K a Hc) ∧ ∀ i ∈ Region.ready md ops listed, kOpZ P ops n m eff z i (wpOrdZ P md ops n m eff z K f (listed.setIfInBounds i true)) a Hc F

theorem wpAny_of_ordZ {w0 : World} (hm0 : w0.heap.size ≤ m) {Q' : Exit → Act → World → Prop} (hQ : ∀ a Hc n' w, K a Hc → n ≤ n' → Mem w0 Hc n' w → Q' .normal a w) :
    ∀ (f : Nat) (listed : Array Bool) (a : Act) (Hc F : Hp) (n' : Nat) (w : World), n ≤ n' → Ext F Hc → Mem w0 Hc n' w → wpOrdZ P md ops n m eff z K f listed a Hc F → wpAny P md ops Q' f listed a w
  | 0, listed, a, Hc, F, n', w, hn, he, hw, h => ⟨h.1, hQ _ _ _ _ h.2 hn hw⟩
  | f + 1, listed, a, Hc, F, n', w, hn, he, hw, h => by
    refine ⟨fun h0 => hQ _ _ _ _ (h.1 h0) hn hw, fun i hi => ?_⟩
    have hk := h.2 i hi
    unfold kOpZ at hk
    unfold wpOp
    split at hk
    · exact hk.elim
    · rename_i o ho
      simp only [ho]
      split at hk
      · rename_i hwant
        rw [if_pos hwant]
        refine .inl ?_
        split at hk
        · unfold Oper.wp
          rcases hk w0 w n' hn hm0 hw with ⟨v, w', Hc', F', n'', hrun, hn2, hm2, he1, he2, hk2⟩ | ⟨fn, args, hrun, hc⟩
          · rcases hrun with hrun | ⟨hrun, rfl⟩
            · rw [hrun]; simp only [Oper.upon]
              exact wpAny_of_ordZ hm0 hQ f _ _ Hc' F' n'' w' (by omega) he2 hm2 hk2
            · rw [hrun]; simp only [Oper.upon]
              exact wpAny_of_ordZ hm0 hQ f _ _ Hc' F' n'' w' (by omega) he2 hm2 hk2
          · rw [hrun]; simp only [Oper.upon]
            refine hc.mono fun e w'' ⟨v, Hc', F', n'', he', hn2, hm2, he1, he2, hk2⟩ => ?_
            subst he'
            exact wpAny_of_ordZ hm0 hQ f _ _ Hc' F' n'' w'' (by omega) he2 hm2 hk2
        · obtain ⟨v, hq, hk2⟩ := hk
          have h3 := hq w w ⟨n', hn, hw.selfBase he⟩
          unfold Oper.quietAt at h3
          unfold Oper.wp
          generalize (execOp a.eval o).run P w = r at h3
          cases r with
          | ok x w' =>
            cases x <;> simp only [Oper.quietUpon] at h3 <;> simp only [Oper.upon]
            case value u =>
              obtain ⟨e1, e2⟩ := h3
              rw [e1, e2]
              exact wpAny_of_ordZ hm0 hQ f _ _ Hc F n' w hn he hw hk2
            case skip =>
              obtain ⟨e1, e2⟩ := h3
              rw [e1, ← e2]
              exact wpAny_of_ordZ hm0 hQ f _ _ Hc F n' w hn he hw hk2
            case enter fn args =>
              obtain ⟨e1, hc⟩ := h3
              rw [e1]
              refine hc.mono fun e w'' ⟨he', n'', hn'', hw''⟩ => ?_
              subst he'
              exact wpAny_of_ordZ hm0 hQ f _ _ Hc F n'' w'' hn'' he (hw.back he hw'') hk2
          | halt x w' => simp only [Oper.quietUpon] at h3
      · rename_i hwant
        rw [if_neg hwant]
        exact wpAny_of_ordZ hm0 hQ f _ _ Hc F n' w hn he hw hk

theorem kOpZ_mono {i : Nat} {a : Act} {Hc F : Hp} {K K' : Act → Hp → Hp → Prop} (h : ∀ a Hc F', (i ≠ z → Ext F F') → K a Hc F' → K' a Hc F') (hh : kOpZ P ops n m eff z i K a Hc F) : kOpZ P ops n m eff z i K' a Hc F := by
  unfold kOpZ at *
  split
  · rename_i ho; simp only [ho] at hh
  · rename_i o ho
    simp only [ho] at hh
    split
    · rename_i hw; rw [if_pos hw] at hh
      split
      · rename_i he; rw [if_pos he] at hh
        exact hh.mono fun v Hc' F' hx hk => h _ _ _ (fun hne => hx (by simpa using hne)) hk
      · rename_i he; rw [if_neg he] at hh; obtain ⟨v, h1, h2⟩ := hh; exact ⟨v, h1, h _ _ _ (fun _ => Ext.refl _) h2⟩
    · rename_i hw; rw [if_neg hw] at hh; exact h _ _ _ (fun _ => Ext.refl _) hh

theorem YieldsM.kOpZ {i : Nat} {o : Oper} {v : Value} {a : Act} {Hc F : Hp} {K : Act → Hp → Hp → Prop} (hi : ops[i]? = some o) (hf : eff i = false) (hy : YieldsM P ops F n o v a) (h : K (a.put o.dst v) Hc F) : kOpZ P ops n m eff z i K a Hc F := by
  unfold V.kOpZ
  simp only [hi, hf, Bool.false_eq_true, if_false]
  rcases hy with ⟨hw, hv⟩ | ⟨hw, rfl⟩
  · rw [if_pos hw]; exact ⟨v, hv, h⟩
  · rw [if_neg (by simp [hw])]; exact h

theorem yieldsM_of_kOpZ {i : Nat} {o : Oper} {a : Act} {Hc F : Hp} {K : Act → Hp → Hp → Prop} (hi : ops[i]? = some o) (hf : eff i = false) (h : kOpZ P ops n m eff z i K a Hc F) : ∃ v, YieldsM P ops F n o v a ∧ K (a.put o.dst v) Hc F := by
  unfold kOpZ at h
  simp only [hi, hf, Bool.false_eq_true, if_false] at h
  by_cases hw : Region.wanted o (yielded ops a.tmps) = true
  · rw [if_pos hw] at h
    obtain ⟨v, h1, h2⟩ := h
    exact ⟨v, .inl ⟨hw, h1⟩, h2⟩
  · rw [if_neg hw] at h
    exact ⟨undef, .inr ⟨by simpa using hw, rfl⟩, h⟩

theorem kOpZ_put {j : Nat} (hjz : j ≠ z) {oi oj : Oper} {v : Value} (hj : ops[j]? = some oj) (hap : oi.apart ops oj = true)
    (hsi : ∀ cs b, oi.op ≠ .select cs b) (hsj : ∀ cs b, oj.op ≠ .select cs b) {K : Act → Hp → Hp → Prop} {a : Act} {Hc F : Hp}
    (hy : YieldsM P ops F n oi v a) (h : kOpZ P ops n m eff z j K (a.put oi.dst v) Hc F) :
    kOpZ P ops n m eff z j (fun a' Hc' F' => YieldsM P ops F' n oi v a' ∧ K (a'.put oi.dst v) Hc' F') a Hc F := by
  obtain ⟨h1, h2, h3⟩ := Oper.apart_spec hap
  have hfl : (j == z) = false := by simpa using hjz
  have keep : ∀ (a : Act) (F' : Hp), YieldsM P ops F' n oi v a → ∀ u, YieldsM P ops F' n oi v (a.put oj.dst u) := fun a F' hy u =>
    hy.of_same (execOp_put oi hsi a oj.dst u h3) (wanted_put oi a oj.dst u h3)
  unfold kOpZ at *
  simp only [hj] at *
  rw [wanted_put oj a oi.dst v h1] at h
  split
  · rename_i hw
    rw [if_pos hw] at h
    split
    · rename_i hf
      rw [if_pos hf] at h
      intro w0 w n' q1 q2 q3
      have hr := h w0 w n' q1 q2 q3
      rw [execOp_put oj hsj a oi.dst v h1] at hr
      rcases hr with ⟨u, w', Hc', F', n'', hrun, p1, p2, p3, p4, p5⟩ | ⟨fn, args, hrun, hc⟩
      · exact .inl ⟨u, w', Hc', F', n'', hrun, p1, p2, p3, p4, keep a F' (hy.grow (p3 hfl)) u, by rw [← Act.put_comm a v u h2]; exact p5⟩
      · exact .inr ⟨fn, args, hrun, hc.mono fun e w'' ⟨u, Hc', F', n'', p0, p1, p2, p3, p4, p5⟩ => ⟨u, Hc', F', n'', p0, p1, p2, p3, p4, keep a F' (hy.grow (p3 hfl)) u, by rw [← Act.put_comm a v u h2]; exact p5⟩⟩
    · rename_i hf
      rw [if_neg hf] at h
      obtain ⟨u, hu, hn⟩ := h
      refine ⟨u, fun w0 w hw' => ?_, keep a F hy u, by rw [← Act.put_comm a v u h2]; exact hn⟩
      have := hu w0 w hw'
      unfold Oper.quietAt at *
      rwa [execOp_put oj hsj a oi.dst v h1] at this
  · rename_i hw
    rw [if_neg hw] at h
    exact ⟨keep a F hy _, by rw [← Act.put_comm a v undef h2]; exact h⟩

/-- What has been listed holds what it waits for. -/
def closedL (md : Region.Mode) (ops : Array Oper) (listed : Array Bool) : Prop := ∀ j oj, ops[j]? = some oj → listed.getD j false = true → ∀ e ∈ oj.after, Region.binds md e = true → listed.getD e.on false = true
theorem closedL_set {listed : Array Bool} (h : closedL md ops listed) {i : Nat} (hi : i ∈ Region.ready md ops listed) : closedL md ops (listed.setIfInBounds i true) := by
  obtain ⟨hun, oi, hoi, hall⟩ := mem_ready.1 hi
  intro j oj hoj hl e he hb
  rcases getD_set hl with q | q
  · subst q
    rw [hoi] at hoj
    cases hoj
    exact getD_set_mono (hall e he hb)
  · exact getD_set_mono (h j oj hoj q e he hb)

theorem wpOrdZ_first {i : Nat} {oi : Oper} {v : Value} (hi : ops[i]? = some oi) (hfi : eff i = false) (hsel : ∀ (j : Nat) (o : Oper) cs b, ops[j]? = some o → o.op ≠ .select cs b) {g : Nat} (hzi : depB md ops g z i = true) :
    ∀ (fuel : Nat) (listed : Array Bool) (a : Act) (Hc F : Hp), closedL md ops listed →
      (∀ j oj, ops[j]? = some oj → j ≠ i → listed.getD j true = false → (∀ e ∈ oj.after, Region.binds md e = true → e.on ≠ i) → oi.apart ops oj = true) →
      i ∈ Region.ready md ops listed → YieldsM P ops F n oi v a →
      wpOrdZ P md ops n m eff z K fuel (listed.setIfInBounds i true) (a.put oi.dst v) Hc F → wpOrdZ P md ops n m eff z K (fuel + 1) listed a Hc F := by
  intro fuel
  induction fuel with
  | zero =>
    intro listed a Hc F _ _ hr hy hh
    refine ⟨fun h => (by rw [h] at hr; cases hr), fun j hj => ?_⟩
    by_cases hji : j = i
    · subst hji; exact hy.kOpZ hi hfi hh
    · have := ready_mono hj hji
      rw [hh.1] at this
      cases this
  | succ fuel ih =>
    intro listed a Hc F hcl hfree hr hy hh
    refine ⟨fun h => (by rw [h] at hr; cases hr), fun j hj => ?_⟩
    by_cases hji : j = i
    · subst hji; exact hy.kOpZ hi hfi hh
    · have hun : listed.getD i false = false := by
        have h0 := (mem_ready.1 hr).1
        simp only [Array.getD_eq_getD_getElem?] at h0 ⊢
        cases hx : listed[i]? with
        | none => rfl
        | some b => rw [hx] at h0; simpa using h0
      have hjz : j ≠ z := by
        intro e
        subst e
        obtain ⟨o2, ho2, e2, he2, hb2, hl2⟩ := depB_spec hcl hun g j hzi
        obtain ⟨_, oj, hoj, hall⟩ := mem_ready.1 hj
        rw [hoj] at ho2
        cases ho2
        rw [hall e2 he2 hb2] at hl2
        cases hl2
      have h1 := hh.2 j (ready_mono hj hji)
      obtain ⟨hjun, oj, hoj, hall⟩ := mem_ready.1 hj
      have hnot : ∀ e ∈ oj.after, Region.binds md e = true → e.on ≠ i := fun e he hb heq => by
        have h1 := hall e he hb
        have h0 := (mem_ready.1 hr).1
        rw [heq] at h1
        rcases Nat.lt_or_ge i listed.size with h' | h'
        · simp [h'] at h0 h1; rw [h0] at h1; cases h1
        · simp [Array.getElem?_eq_none h'] at h1
      have h2 := kOpZ_put hjz hoj (hfree j oj hoj hji hjun hnot) (fun cs b => hsel i oi cs b hi) (fun cs b => hsel j oj cs b hoj) hy h1
      have hfree' : ∀ k ok, ops[k]? = some ok → k ≠ i → (listed.setIfInBounds j true).getD k true = false →
          (∀ e ∈ ok.after, Region.binds md e = true → e.on ≠ i) → oi.apart ops ok = true := fun k ok hk hki hun hno => by
        refine hfree k ok hk hki ?_ hno
        by_cases hjk : j = k
        · subst hjk; exact hjun
        · rw [getD_set_ne true hjk] at hun; exact hun
      refine kOpZ_mono (fun a' Hc' F' _ h3 => ih (listed.setIfInBounds j true) a' Hc' F' (closedL_set hcl hj) hfree' (ready_mono hr (Ne.symm hji)) h3.1 ?_) h2
      rw [Array.setIfInBounds_comm _ _ hji]
      exact h3.2

def wpTZ (P : Program) (ops : Array Oper) (n m : Nat) (eff : Nat → Bool) (z : Nat) (K : Act → Hp → Hp → Prop) : OT → Act → Hp → Hp → Prop
  | .done, a, Hc, F => K a Hc F
  | .seg k t, a, Hc, F => kOpZ P ops n m eff z k (wpTZ P ops n m eff z K t) a Hc F
  | .fork t1 t2, a, Hc, F => wpTZ P ops n m eff z K t1 a Hc F ∧ wpTZ P ops n m eff z K t2 a Hc F

theorem wpOrdZ_empty {listed : Array Bool} {a : Act} {Hc F : Hp} (h0 : Region.ready md ops listed = []) (h : K a Hc) : ∀ (f : Nat), wpOrdZ P md ops n m eff z K f listed a Hc F
  | 0 => ⟨h0, h⟩
  | f + 1 => ⟨fun _ => h, fun i hi => by rw [h0] at hi; cases hi⟩

theorem tree_walkZ (hs : Region.noSelect ops = true) {g : Nat} (hz : ∀ i, i < ops.size → i ≠ z → depB md ops g z i = true) (hez : eff z = true) : ∀ (t : OT) (f : Nat) (listed : Array Bool) (a : Act) (Hc F : Hp), t.len ≤ f → closedL md ops listed → ordT md ops eff t listed = true →
    wpTZ P ops n m eff z (fun a Hc _ => K a Hc) t a Hc F → wpOrdZ P md ops n m eff z K f listed a Hc F
  | .done, f, listed, a, Hc, F, _, _, hB, h => wpOrdZ_empty (by simpa [ordT] using hB) h f
  | .seg k t, 0, listed, a, Hc, F, hl, _, hB, h => by simp [OT.len] at hl
  | .seg k t, f + 1, listed, a, Hc, F, hl, hcl, hB, h => by
    simp only [ordT, Bool.and_eq_true] at hB
    obtain ⟨hB1, hB2⟩ := hB
    have hl' : t.len ≤ f := by simp only [OT.len] at hl; omega
    cases he : eff k with
    | true =>
      rw [if_pos he] at hB1
      simp only [decide_eq_true_eq] at hB1
      refine ⟨fun h1 => (by rw [hB1] at h1; cases h1), fun i hi => ?_⟩
      have hi2 := hi
      rw [hB1] at hi
      have hik : i = k := by simpa using hi
      subst hik
      exact kOpZ_mono (fun a' Hc' F' _ h' => tree_walkZ hs hz hez t f _ a' Hc' F' hl' (closedL_set hcl hi2) hB2 h') h
    | false =>
      rw [if_neg (by simp [he])] at hB1
      simp only [Bool.and_eq_true] at hB1
      obtain ⟨hr, hfr⟩ := hB1
      have hr2 : k ∈ Region.ready md ops listed := by simpa using hr
      have hk : kOpZ P ops n m eff z k (wpTZ P ops n m eff z (fun a Hc _ => K a Hc) t) a Hc F := h
      cases ho : ops[k]? with
      | none => unfold kOpZ at hk; simp only [ho] at hk
      | some o =>
        obtain ⟨v, hy, hK⟩ := yieldsM_of_kOpZ ho he hk
        have hlt : k < ops.size := by
          rcases Nat.lt_or_ge k ops.size with q | q
          · exact q
          · rw [Array.getElem?_eq_none q] at ho; cases ho
        have hkz : k ≠ z := fun e => by rw [e, hez] at he; cases he
        exact wpOrdZ_first ho he (Region.noSelect_spec hs) (hz k hlt hkz) _ listed a Hc F hcl (Region.free_spec ho hfr) hr2 hy (tree_walkZ hs hz hez t f _ _ Hc F hl' (closedL_set hcl hr2) hB2 hK)
  | .fork (.seg k1 t1) (.seg k2 t2), 0, listed, a, Hc, F, hl, _, hB, h => by simp only [OT.len] at hl; omega
  | .fork (.seg k1 t1) (.seg k2 t2), f + 1, listed, a, Hc, F, hl, hcl, hB, h => by
    simp only [ordT, Bool.and_eq_true, decide_eq_true_eq] at hB
    obtain ⟨⟨hB0, hB1⟩, hB2⟩ := hB
    have hl1 : t1.len ≤ f := by simp only [OT.len] at hl; omega
    have hl2 : t2.len ≤ f := by simp only [OT.len] at hl; omega
    refine ⟨fun h1 => (by rw [hB0] at h1; cases h1), fun i hi => ?_⟩
    have hi2 := hi
    rw [hB0] at hi
    have hik : i = k1 ∨ i = k2 := by simpa using hi
    rcases hik with rfl | rfl
    · exact kOpZ_mono (fun a' Hc' F' _ h' => tree_walkZ hs hz hez t1 f _ a' Hc' F' hl1 (closedL_set hcl hi2) hB1 h') h.1
    · exact kOpZ_mono (fun a' Hc' F' _ h' => tree_walkZ hs hz hez t2 f _ a' Hc' F' hl2 (closedL_set hcl hi2) hB2 h') h.2
  | .fork .done t2, _, _, _, _, _, _, _, hB, _ => by simp [ordT] at hB
  | .fork (.fork _ _) t2, _, _, _, _, _, _, _, hB, _ => by simp [ordT] at hB
  | .fork (.seg _ _) .done, _, _, _, _, _, _, _, hB, _ => by simp [ordT] at hB
  | .fork (.seg _ _) (.fork _ _), _, _, _, _, _, _, _, hB, _ => by simp [ordT] at hB

theorem wp_region_treeZ {id : Nat} {Q : Exit → Act → World → Prop} {a : Act} {w0 w : World} {H F : Hp} {t : OT} (hF : Ext F H) (hm : P.follows .mixedOrders = true) (hs : Region.noSelect ops = true) {g : Nat} (hz : ∀ i, i < ops.size → i ≠ z → depB .any ops g z i = true) (hez : eff z = true)
    (hB : ordT .any ops eff t (Array.replicate ops.size false) = true) (hl : t.len ≤ ops.size)
    (hsz : w0.heap.size ≤ m) (hw : Mem w0 H n w) (hK : ∀ a Hc n' w, K a Hc → n ≤ n' → Mem w0 Hc n' w → Q .normal a w)
    (h : wpTZ P ops n m eff z (fun a Hc _ => K a Hc) t a H F) : (Code.region id ops true).wp P Q a w := by
  refine wp_region_any hm ?_
  have hcl : closedL .any ops (Array.replicate ops.size false) := fun j oj _ hl => by
    have hr : (Array.replicate ops.size false).getD j false = false := by
      simp only [Array.getD_eq_getD_getElem?, Array.getElem?_replicate]
      split <;> rfl
    rw [hr] at hl; cases hl
  have key := tree_walkZ (md := .any) hs hz hez t ops.size (Array.replicate ops.size false) a H F hl hcl hB h
  exact wpAny_of_ordZ (w0 := w0) hsz hK _ _ _ H F n _ (Nat.le_refl _) hF (hw.drew _) key
end
section
variable {P : Program}
/-- One operation: reads keep to F. -/
structure ST (P : Program) (N m : Nat) (x : Ins) (e : Env) (H F : Hp) (n : Nat) (K : Env → Hp → Prop) : Prop where
  g : x.g = none
  h : ∀ (o : Oper), trI P o.type o.op = some x.i → o.dst = x.d → (∀ t, x.d = some t → t < N) → ∀ (a : Act) (Ka : Act → Hp → Prop), Ag N e a → Ext F H → (∀ e' a' H', K e' H' → Ag N e' a' → Ext F H' → Ka a' H') →
    (if isCall x.i = true then eRunO P n m o a H F (fun v Hc' F' => F' = F ∧ Ka (a.put o.dst v) Hc') else ∃ v, qAt P F n o a v ∧ Ka (a.put o.dst v) H)
theorem ST.pure {N m : Nat} {d : Option Nat} {i : I} {e : Env} {H F : Hp} {n : Nat} {K : Env → Hp → Prop} (h : PV i e F fun v => K (putD d v e) H) : ST P N m ⟨d, none, i⟩ e H F n K := by
  refine ⟨rfl, ?_⟩
  intro o h1 h2 h3 a Ka hag hE hK
  obtain ⟨v, hv, hrun⟩ := pv_sound hag h1 h
  rw [if_neg (by rw [PV_pure h]; simp)]
  refine ⟨v.conc, fun w0 w ⟨n', hn, hw⟩ => ?_, hK _ _ _ hv (by rw [h2]; exact hag.putD h3 v) hE⟩
  unfold Oper.quietAt
  rw [hrun _ _ _ hw]
  exact ⟨rfl, rfl⟩
theorem ST.call {N m : Nat} {d : Option Nat} {f : FuncId} {args : List X} {e : Env} {H F : Hp} {n : Nat} {K : Env → Hp → Prop} {vs : List AV} {R : AV → Hp → Prop}
    (hv : evs e args = some vs) (hf : ∀ n', n ≤ n' → (∀ x, n' ≤ x → H.get x = none) → FnS P f vs H n' fun r H' n'' => R r H' ∧ Ext F H')
    (h : ∀ r H', R r H' → Ext F H' → K (putD d r e) H') : ST P N m ⟨d, none, .call f args⟩ e H F n K := by
  refine ⟨rfl, ?_⟩
  intro o h1 h2 h3 a Ka hag hE hK
  rw [if_pos (show isCall (I.call f args) = true from rfl)]
  intro w0 w n' q1 q2 q3
  obtain ⟨dst, op, ty, pos, after, guard⟩ := o
  dsimp only at h1 h2 h3
  obtain ⟨c, rfl, hcal, hargs⟩ := inv_call h1
  have e1 := evs_spec hag _ _ _ hargs hv
  have e1' : c.args.map a.eval = (AV.concs vs).toArray := Array.toList_inj.1 (by rw [Array.toList_map]; exact e1)
  refine .inr ⟨f, (AV.concs vs).toArray, ?_, ((hf n' q1 fun x hx => q3.fresh hx).2 w0 w q3).mono ?_⟩
  · simp [execOp, resolve, hcal, Act.eval, Deferred.ofValue, invoke, run_callFunc (hf n' q1 fun x hx => q3.fresh hx).1, e1']
  · rintro e' w' ⟨r, H', n2, rfl, hn2, hm', hR, hE'⟩
    exact ⟨r.conc, H', F, n2, rfl, hn2, hm', Ext.refl _, hE', rfl, hK _ _ _ (h r H' hR hE') (by rw [h2]; exact hag.putD h3 r) hE'⟩
/-- An effect that is no call. -/
theorem ST.run {N m : Nat} {d : Option Nat} {i : I} {e : Env} {H F : Hp} {n : Nat} {K : Env → Hp → Prop} (hi : isCall i = true)
    (h : ∀ n', n ≤ n' → (∀ x, n' ≤ x → H.get x = none) → ∀ (o : Oper), trI P o.type o.op = some i → ∀ w0 w a, Mem w0 H n' w → Ag N e a →
      ∃ v H' n2 w', (execOp a.eval o).run P w = .ok (.value v) w' ∧ n' ≤ n2 ∧ Mem w0 H' n2 w' ∧ ∃ u : AV, v = u.conc ∧ Ext F H' ∧ K (putD d u e) H') : ST P N m ⟨d, none, i⟩ e H F n K := by
  refine ⟨rfl, ?_⟩
  intro o h1 h2 h3 a Ka hag hE hK
  rw [if_pos hi]
  intro w0 w n' q1 q2 q3
  obtain ⟨vv, H', n2, w', hrun, hn2, hm', u, rfl, hE', hk⟩ := h n' q1 (fun x hx => q3.fresh hx) o h1 w0 w a q3 hag
  exact .inl ⟨_, w', H', F, n2, .inl hrun, hn2, hm', Ext.refl _, hE', rfl, hK _ _ _ hk (by rw [h2]; exact hag.putD h3 u) hE'⟩
theorem ST.bsl {N m : Nat} {d : Option Nat} {t : TypeId} {len sz : Nat} {zz : Zs} {ps : List (Nat × Nat × X)} {c : Nat → SV} {e : Env} {H F : Hp} {n : Nat} {K : Env → Hp → Prop}
    (hE : Ext F H) (hp : placeAll e ps (fun i => zz.c (i % sz)) = some c) (h : ∀ b, n ≤ b → (∀ x, b ≤ x → H.get x = none) → K (putD d (.s (.slc b 0 len len)) e) ((b, ⟨len * sz, c, t⟩) :: H)) : ST P N m ⟨d, none, .bsl t len sz zz ps⟩ e H F n K := by
  refine ST.run rfl ?_
  intro n' q1 hfr o h1 w0 w a q3 hag
  obtain ⟨w', hrun, hm'⟩ := run_bsl h1 q3 hag hp
  have hE' : Ext H ((n', ⟨len * sz, c, t⟩) :: H) := fun b k hb => by
    have hne : n' ≠ b := by intro e1; subst e1; rw [hfr _ (Nat.le_refl _)] at hb; cases hb
    rw [Hp.get_ne _ _ hne]; exact hb
  exact ⟨_, _, _, w', hrun, Nat.le_succ _, hm', .s (.slc n' 0 len len), rfl, hE.trans hE', h n' q1 hfr⟩
/-- What is left of a tree of orders; the last operation is a store that all others come ahead of. -/
structure OFT (P : Program) (N m : Nat) (ll : List Ins) (t : OT) (e : Env) (H F : Hp) (n : Nat) (K : Env → Hp → Prop) : Prop where
  h : ∀ (ops : Array Oper) (eff : Nat → Bool) (z : Nat), LMatch P N ops eff ll → t.under ll.length = true → t.lastOf = some z → ∀ (a : Act) (Ka : Act → Hp → Hp → Prop), Ag N e a → Ext F H →
    (∀ e' a' H' F', K e' H' → Ag N e' a' → Ka a' H' F') → wpTZ P ops n m eff z Ka t a H F
theorem OFT.fork {N m : Nat} {ll : List Ins} {t1 t2 : OT} {e : Env} {H F : Hp} {n : Nat} {K : Env → Hp → Prop} (h1 : OFT P N m ll t1 e H F n K) (h2 : OFT P N m ll t2 e H F n K) : OFT P N m ll (.fork t1 t2) e H F n K := by
  refine ⟨?_⟩
  intro ops eff z hl hb hz a Ka hag hE hK
  simp only [OT.under, Bool.and_eq_true] at hb
  unfold OT.lastOf at hz
  split at hz
  · rename_i he
    exact ⟨h1.h ops eff z hl hb.1 hz a Ka hag hE hK, h2.h ops eff z hl hb.2 (by rw [← he]; exact hz) a Ka hag hE hK⟩
  · cases hz
theorem OFT.seg {N m k : Nat} {ll : List Ins} {t : OT} {x : Ins} {e : Env} {H F : Hp} {n : Nat} {K : Env → Hp → Prop} (hx : ll[k]? = some x) (ht : t ≠ .done) (h : ST P N m x e H F n fun e' H' => OFT P N m ll t e' H' F n K) : OFT P N m ll (.seg k t) e H F n K := by
  refine ⟨?_⟩
  intro ops eff z hl hb hz a Ka hag hE hK
  simp only [OT.under, Bool.and_eq_true, decide_eq_true_eq] at hb
  have hz' : t.lastOf = some z := by
    cases t with
    | done => exact absurd rfl ht
    | seg _ _ => exact hz
    | fork _ _ => exact hz
  have hm := hl [k] (fun j hj => by have : j = k := by simpa using hj
                                    omega)
  unfold pick at hm
  rw [List.filterMap_cons, hx] at hm
  obtain ⟨⟨o, ho, htr, hef⟩, _⟩ := hm
  obtain ⟨h1, h2, h3, h4⟩ := trOp_spec htr
  rw [h.g] at h4
  have hs := h.h o h1 h2 h3 a (fun a' H' => wpTZ P ops n m eff z Ka t a' H' F) hag hE (fun e' a' H' hk hag' hE' => hk.h ops eff z hl hb.2 hz' a' Ka hag' hE' hK)
  unfold wpTZ kOpZ
  simp only [ho]
  rw [if_pos (wanted_none h4)]
  rw [hef]
  split
  · rename_i hc
    rw [if_pos hc] at hs
    intro w0 w n' q1 q2 q3
    rcases hs w0 w n' q1 q2 q3 with ⟨v, w', Hc', F', n'', hr, p1, p2, p3, p4, p5, p6⟩ | ⟨f, args, hr, hc2⟩
    · subst p5
      exact .inl ⟨v, w', Hc', F', n'', hr, p1, p2, fun _ => p3, p4, p6⟩
    · exact .inr ⟨f, args, hr, hc2.mono fun e w'' ⟨v, Hc', F', n'', p0, p1, p2, p3, p4, p5, p6⟩ => by
        subst p5
        exact ⟨v, Hc', F', n'', p0, p1, p2, fun _ => p3, p4, p6⟩⟩
  · rename_i hc
    rw [if_neg hc] at hs
    exact hs
/-- The last effect: one cell stored. -/
theorem OFT.st1 {N m k : Nat} {ll : List Ins} {x y : X} {e : Env} {H F : Hp} {n : Nat} {K : Env → Hp → Prop} {b off : Nat} {kb : Blk} {v : SV} (hk : ll[k]? = some ⟨none, none, .st 1 x y⟩)
    (hx : x.ev e = some (.s (.ptr b off))) (hy : y.ev e = some (.s v)) (hb : H.get b = some kb) (ho : off < kb.size) (h : K e (H.set b (put1 kb.c off v))) : OFT P N m ll (.seg k .done) e H F n K := by
  refine ⟨?_⟩
  intro ops eff z hl hbd hz a Ka hag hE hK
  simp only [OT.under, Bool.and_eq_true, decide_eq_true_eq] at hbd
  have hkz : k = z := by
    unfold OT.lastOf at hz
    cases hz; rfl
  have hm := hl [k] (fun j hj => by have : j = k := by simpa using hj
                                    omega)
  unfold pick at hm
  rw [List.filterMap_cons, hk] at hm
  obtain ⟨⟨o, ho', htr, hef⟩, _⟩ := hm
  obtain ⟨h1, h2, h3, h4⟩ := trOp_spec htr
  dsimp only at h1 h2 h3 h4
  unfold wpTZ kOpZ
  simp only [ho']
  rw [if_pos (wanted_none h4), if_pos (by rw [hef]; rfl)]
  intro w0 w n' q1 q2 q3
  obtain ⟨dst, op, ty, pos, after, guard⟩ := o
  dsimp only at h1 h2 h3
  subst h2
  obtain ⟨t, x0, y0, rfl, hs, hx0, hy0⟩ := inv_st h1
  have e1 := trX_eval hag hx0 hx
  have e2 := trX_eval hag hy0 hy
  simp only [sizeT, Option.map_eq_some_iff] at hs
  obtain ⟨ti, hti, hz1⟩ := hs
  have hz : (sizeOf t).run P w = .ok ti.size w := by simp [sizeOf, typeInfo, hti]
  have hsz : (a.eval y0).cells.size = ti.size := by rw [e2, hz1]; simp [AV.conc, SV.cells]
  have hrun : ∃ w', (storeCells ⟨b, off, none⟩ (a.eval y0).cells.toList).run P w = .ok () w' ∧ Mem w0 (H.set b (put1 kb.c off v)) n' w' := by
    refine ⟨_, ?_, q3.setCell (x := v) hb ho⟩
    rw [e2]
    simp only [AV.conc, SV.cells]
    unfold storeCells
    rw [addr_add, Sem.run_bind, Nat.add_zero, run_store q3 hb ho]
    simp [storeCells]
  obtain ⟨w', hr1, hm1⟩ := hrun
  refine .inl ⟨undef, w', _, [], n', .inr ⟨?_, rfl⟩, Nat.le_refl _, hm1, fun hf => by rw [hkz] at hf; simp at hf, Ext.nil _, hK _ _ _ _ h hag⟩
  simp [execOp, Instr.storeAt, e1, AV.conc, SV.conc, Instr.sureAddr, storeVar, hz, hsz, hr1]
theorem CS.ordF {N m : Nat} {t : OT} {l : List Ins} {e : Env} {H : Hp} {n : Nat} {Q : Ex → Env → Hp → Nat → Prop} (F : Hp) (hF : Ext F H)
    (h : OFT P N m l t e H F n fun e2 H2 => ∀ n', n ≤ n' → (∀ b k, H2.get b = some k → b < n') → Q .normal e2 H2 n') : CS P N m (.drwf t l) e H n Q := by
  intro code hc w0 w a Q' hm hw hag hQ
  obtain ⟨id, ops, rfl, hl, hf, hB, hT⟩ := inv_drwf hc
  simp only [treeOk, Bool.and_eq_true, decide_eq_true_eq] at hB
  obtain ⟨⟨⟨h1, h2⟩, h3⟩, h4⟩ := hB
  have hlr : l.length = ops.size := by rw [mapM_some_length hl]; simp
  unfold lastTot at hT
  split at hT
  · cases hT
  · rename_i z hz
    rw [Bool.and_eq_true] at hT
    obtain ⟨hez, hT⟩ := hT
    have hdep : ∀ i, i < ops.size → i ≠ z → depB .any ops ops.size z i = true := fun i hi hne => by
      have := List.all_eq_true.1 hT i (List.mem_range.2 hi)
      simp only [Bool.or_eq_true, beq_iff_eq] at this
      exact this.resolve_left hne
    refine wp_region_treeZ (F := F) (z := z) (K := fun a Hc => ∃ e2, Ag N e2 a ∧ ∀ n', n ≤ n' → (∀ b k, Hc.get b = some k → b < n') → Q .normal e2 Hc n') hF hf h1 hdep hez h2 h3 hm hw
      (fun a Hc n' w ⟨e2, hag2, hk⟩ hn hw' => hQ .normal e2 Hc n' a w (hk n' hn fun b k hb => hw'.lt hb) hn hag2 hw') ?_
    exact h.h ops (effL l) z (fun os hos => omatch_of hl os fun k hk => by rw [← hlr]; exact hos k hk) h4 hz a _ hag hF fun e2 a2 H2 F2 hk2 hag2 => ⟨e2, hag2, hk2⟩
end
end Go.V

/- Regions in an open order with calls that make blocks: reads keep to blocks that stay; lists and trees of orders. -/
namespace Go.V
variable [BW]
set_option linter.unusedSimpArgs false
set_option linter.unusedVariables false
section
variable {P : Program}
theorem wp_region_treeF {n m : Nat} {eff : Nat → Bool} {K : Act → Hp → Prop} {ops : Array Oper} {id : Nat} {Q : Exit → Act → World → Prop} {a : Act} {w0 w : World} {H F : Hp} {t : OT} (hF : Ext F H) (hm : P.follows .mixedOrders = true) (hs : Region.noSelect ops = true)
    (hB : ordT .any ops eff t (Array.replicate ops.size false) = true) (hl : t.len ≤ ops.size)
    (hsz : w0.heap.size ≤ m) (hw : Mem w0 H n w) (hK : ∀ a Hc n' w, K a Hc → n ≤ n' → Mem w0 Hc n' w → Q .normal a w)
    (h : wpT P ops n m eff (fun a Hc _ => K a Hc) t a H F) : (Code.region id ops true).wp P Q a w := by
  refine wp_region_any hm ?_
  have key := tree_walk (md := .any) hs t ops.size (Array.replicate ops.size false) a H F hl hB h
  exact wpAny_of_ord (w0 := w0) hsz hK _ _ _ H F n _ (Nat.le_refl _) hF (hw.drew _) key
/-- One operation of a list or a tree, from what is known of it. -/
theorem ST.op {N m n : Nat} {x : Ins} {e : Env} {H F : Hp} {K : Env → Hp → Prop} {ops : Array Oper} {eff : Nat → Bool} {k : Nat} {a : Act} {Ka : Act → Hp → Hp → Prop}
    (h : ST P N m x e H F n K) (hm : ∃ o, ops[k]? = some o ∧ trOp P N ops o = some x ∧ eff k = isCall x.i) (hag : Ag N e a) (hE : Ext F H) (hK : ∀ e' a' H', K e' H' → Ag N e' a' → Ext F H' → Ka a' H' F) : kOpO P ops n m eff k Ka a H F := by
  obtain ⟨o, ho, htr, hef⟩ := hm
  obtain ⟨h1, h2, h3, h4⟩ := trOp_spec htr
  rw [h.g] at h4
  have hs := h.h o h1 h2 h3 a (fun a' H' => Ka a' H' F) hag hE hK
  unfold kOpO
  simp only [ho]
  rw [if_pos (wanted_none h4), hef]
  split
  · rename_i hc
    rw [if_pos hc] at hs
    refine eRunO.mono (fun v Hc' F' _ q => ?_) hs
    obtain ⟨rfl, q⟩ := q
    exact q
  · rename_i hc
    rw [if_neg hc] at hs
    exact hs
/-- A list of operations in order. -/
structure FL (P : Program) (N m : Nat) (l : List Ins) (e : Env) (H F : Hp) (n : Nat) (K : Env → Hp → Prop) : Prop where
  h : ∀ (ops : Array Oper) (ks : List Nat) (eff : Nat → Bool), OMatch P N ops eff isCall ks l → ∀ (a : Act) (Ka : Act → Hp → Hp → Prop), Ag N e a → Ext F H →
    (∀ e' a' H', K e' H' → Ag N e' a' → Ext F H' → Ka a' H' F) → wpO P ops n m eff Ka ks a H F
theorem FL.nil {N m : Nat} {e : Env} {H F : Hp} {n : Nat} {K : Env → Hp → Prop} (h : K e H) : FL P N m [] e H F n K := by
  refine ⟨fun ops ks eff hm a Ka hag hE hK => ?_⟩
  cases ks with
  | nil => exact hK _ _ _ h hag hE
  | cons k ks => exact hm.elim
theorem FL.step {N m : Nat} {x : Ins} {l : List Ins} {e : Env} {H F : Hp} {n : Nat} {K : Env → Hp → Prop} (h : ST P N m x e H F n fun e' H' => FL P N m l e' H' F n K) : FL P N m (x :: l) e H F n K := by
  refine ⟨fun ops ks eff hm a Ka hag hE hK => ?_⟩
  cases ks with
  | nil => exact hm.elim
  | cons k ks =>
    obtain ⟨hm1, hm2⟩ := hm
    exact h.op hm1 hag hE fun e' a' H' hk hag' hE' => hk.h ops ks eff hm2 a' Ka hag' hE' hK
theorem CS.ordK {N m : Nat} {q : Bool} {ks os : List Nat} {l : List Ins} {e : Env} {H : Hp} {n : Nat} {Q : Ex → Env → Hp → Nat → Prop} (F : Hp) (hF : Ext F H)
    (h : FL P N m (pick os l) e H F n fun e2 H2 => ∀ n', n ≤ n' → (∀ b k, H2.get b = some k → b < n') → Q .normal e2 H2 n') : CS P N m (.drwo q ks os l) e H n Q := by
  intro code hc w0 w a Q' hm hw hag hQ
  obtain ⟨id, ops, rfl, hl, hf, hq, hks, hB⟩ := inv_drwo hc
  simp only [ordOk, Bool.and_eq_true, decide_eq_true_eq] at hB
  obtain ⟨⟨⟨h1, h2⟩, h3⟩, h4⟩ := hB
  have hos : ∀ k ∈ os, k < ops.size := fun k hk => by simpa only [decide_eq_true_eq] using List.all_eq_true.1 h4 k hk
  refine wp_region_ordF (F := F) (K := fun a Hc => ∃ e2, Ag N e2 a ∧ ∀ n', n ≤ n' → (∀ b k, Hc.get b = some k → b < n') → Q .normal e2 Hc n') hF hf h1 h2 h3 hm hw
    (fun a Hc n' w ⟨e2, hag2, hk⟩ hn hw' => hQ .normal e2 Hc n' a w (hk n' hn fun b k hb => hw'.lt hb) hn hag2 hw') ?_
  exact h.h ops os (effL l) (omatch_of hl os hos) a _ hag hF fun e2 a2 H2 hk2 hag2 _ => ⟨e2, hag2, hk2⟩
/-- A tree of orders. -/
structure FT (P : Program) (N m : Nat) (ll : List Ins) (t : OT) (e : Env) (H F : Hp) (n : Nat) (K : Env → Hp → Prop) : Prop where
  h : ∀ (ops : Array Oper) (eff : Nat → Bool), LMatch P N ops eff ll → t.under ll.length = true → ∀ (a : Act) (Ka : Act → Hp → Hp → Prop), Ag N e a → Ext F H →
    (∀ e' a' H', K e' H' → Ag N e' a' → Ext F H' → Ka a' H' F) → wpT P ops n m eff Ka t a H F
theorem FT.done {N m : Nat} {ll : List Ins} {e : Env} {H F : Hp} {n : Nat} {K : Env → Hp → Prop} (h : K e H) : FT P N m ll .done e H F n K :=
  ⟨fun ops eff hl hb a Ka hag hE hK => hK _ _ _ h hag hE⟩
theorem FT.fork {N m : Nat} {ll : List Ins} {t1 t2 : OT} {e : Env} {H F : Hp} {n : Nat} {K : Env → Hp → Prop} (h1 : FT P N m ll t1 e H F n K) (h2 : FT P N m ll t2 e H F n K) : FT P N m ll (.fork t1 t2) e H F n K :=
  ⟨fun ops eff hl hb a Ka hag hE hK => by
    simp only [OT.under, Bool.and_eq_true] at hb
    exact ⟨h1.h ops eff hl hb.1 a Ka hag hE hK, h2.h ops eff hl hb.2 a Ka hag hE hK⟩⟩
theorem FT.seg {N m k : Nat} {ll : List Ins} {t : OT} {x : Ins} {e : Env} {H F : Hp} {n : Nat} {K : Env → Hp → Prop} (hx : ll[k]? = some x) (h : ST P N m x e H F n fun e' H' => FT P N m ll t e' H' F n K) : FT P N m ll (.seg k t) e H F n K := by
  refine ⟨fun ops eff hl hb a Ka hag hE hK => ?_⟩
  simp only [OT.under, Bool.and_eq_true, decide_eq_true_eq] at hb
  have hm := hl [k] (fun j hj => by have : j = k := by simpa using hj
                                    omega)
  unfold pick at hm
  rw [List.filterMap_cons, hx] at hm
  exact h.op hm.1 hag hE fun e' a' H' hk hag' hE' => hk.h ops eff hl hb.2 a' Ka hag' hE' hK
theorem CS.ordN {N m : Nat} {t : OT} {l : List Ins} {e : Env} {H : Hp} {n : Nat} {Q : Ex → Env → Hp → Nat → Prop} (F : Hp) (hF : Ext F H)
    (h : FT P N m l t e H F n fun e2 H2 => ∀ n', n ≤ n' → (∀ b k, H2.get b = some k → b < n') → Q .normal e2 H2 n') : CS P N m (.drwn t l) e H n Q := by
  intro code hc w0 w a Q' hm hw hag hQ
  obtain ⟨id, ops, rfl, hl, hf, hB⟩ := inv_drwn hc
  simp only [treeOk, Bool.and_eq_true, decide_eq_true_eq] at hB
  obtain ⟨⟨⟨h1, h2⟩, h3⟩, h4⟩ := hB
  have hlr : l.length = ops.size := by rw [mapM_some_length hl]; simp
  refine wp_region_treeF (F := F) (K := fun a Hc => ∃ e2, Ag N e2 a ∧ ∀ n', n ≤ n' → (∀ b k, Hc.get b = some k → b < n') → Q .normal e2 Hc n') hF hf h1 h2 h3 hm hw
    (fun a Hc n' w ⟨e2, hag2, hk⟩ hn hw' => hQ .normal e2 Hc n' a w (hk n' hn fun b k hb => hw'.lt hb) hn hag2 hw') ?_
  exact h.h ops (effL l) (fun os hos => omatch_of hl os fun k hk => by rw [← hlr]; exact hos k hk) h4 a _ hag hF fun e2 a2 H2 hk2 hag2 _ => ⟨e2, hag2, hk2⟩
/-- Steps of such lists and trees: a new block, a store into a block that is no part of what is read. -/
theorem ST.new {N m : Nat} {d : Option Nat} {t : TypeId} {z : Zs} {e : Env} {H F : Hp} {n : Nat} {K : Env → Hp → Prop} (hE : Ext F H)
    (h : ∀ b, n ≤ b → (∀ x, b ≤ x → H.get x = none) → K (putD d (.s (.ptr b 0)) e) ((b, ⟨z.size, z.c, t⟩) :: H)) : ST P N m ⟨d, none, .new t z⟩ e H F n K := by
  refine ST.run rfl ?_
  intro n' q1 hfr o h1 w0 w a q3 hag
  obtain ⟨dst, op, ty, pos, after, guard⟩ := o
  dsimp only at h1
  obtain ⟨rfl, hz⟩ := inv_new h1
  obtain ⟨i, v, hi, hv, hc, hs⟩ := zOf_spec hz
  have hE' : Ext H ((n', ⟨z.size, z.c, t⟩) :: H) := fun b k hb => by
    have hne : n' ≠ b := by intro e1; subst e1; rw [hfr _ (Nat.le_refl _)] at hb; cases hb
    rw [Hp.get_ne _ _ hne]; exact hb
  refine ⟨_, _, _, _, ?_, Nat.le_succ _, q3.push ⟨z.size, z.c, t⟩, .s (.ptr n' 0), rfl, hE.trans hE', h n' q1 hfr⟩
  simp only [execOp]
  refine run_v' ?_
  have hz' : (zeroValue t).run P w = .ok v w := by simp [zeroValue, typeInfo, hi, hv]
  have := run_newRow (P := P) q3 ⟨z.size, z.c, t⟩
  simp [Instr.alloc, hz', newVar, hc, this, AV.conc, SV.conc]
theorem Ext.setF {F H : Hp} {b : Nat} (c : Nat → SV) (hE : Ext F H) (hF : F.get b = none) : Ext F (H.set b c) := fun b' k hb => by
  have hne : b ≠ b' := by intro e1; subst e1; rw [hF] at hb; cases hb
  rw [Hp.get_set_other _ hne]; exact hE _ _ hb
theorem ST.sta {N m z b off : Nat} {x y : X} {kb : Blk} {c : Nat → SV} {e : Env} {H F : Hp} {n : Nat} {K : Env → Hp → Prop} (hx : x.ev e = some (.s (.ptr b off))) (hy : y.ev e = some (.arr z c))
    (hb : H.get b = some kb) (ho : off + z ≤ kb.size) (hF : F.get b = none) (hE : Ext F H) (h : K e (H.set b (splice kb.c off z c))) : ST P N m ⟨none, none, .st z x y⟩ e H F n K := by
  refine ⟨rfl, ?_⟩
  intro o h1 h2 h3 a Ka hag _ hK
  rw [if_pos (show isCall (I.st z x y) = true from rfl)]
  intro w0 w n' q1 q2 q3
  obtain ⟨dst, op, ty, pos, after, guard⟩ := o
  dsimp only at h1 h2 h3
  subst h2
  obtain ⟨t, x0, y0, rfl, hs, hx0, hy0⟩ := inv_st h1
  have e1 := trX_eval hag hx0 hx
  have e2 := trX_eval hag hy0 hy
  simp only [sizeT, Option.map_eq_some_iff] at hs
  obtain ⟨ti, hti, hz1⟩ := hs
  have hz : (sizeOf t).run P w = .ok ti.size w := by simp [sizeOf, typeInfo, hti]
  have hsz : (a.eval y0).cells.size = ti.size := by rw [e2, hz1]; simp [AV.conc, Value.cells]
  obtain ⟨w', hr1, hm1⟩ := run_storeArr (P := P) (d := c) (m := z) q3 hb ho
  have hr1' : (storeCells ⟨b, off, none⟩ (a.eval y0).cells.toList).run P w = .ok () w' := by rw [e2]; exact hr1
  refine .inl ⟨undef, w', _, F, n', .inr ⟨?_, rfl⟩, Nat.le_refl _, hm1, Ext.refl _, hE.setF _ hF, rfl, hK _ _ _ h hag (hE.setF _ hF)⟩
  simp [execOp, Instr.storeAt, e1, AV.conc, SV.conc, Instr.sureAddr, storeVar, hz, hsz, hr1']
end
end Go.V

/- From a contract to a law: what a walk from an empty list of blocks says of the world, and arguments that are made of numbers alone. -/
namespace Go.V
open Go.RowKit Go.ChangeShapes Go.WideShapes Go.ChangeAt
set_option linter.unusedSimpArgs false
set_option linter.unusedVariables false

theorem law_walk {P : Program} {f : FuncId} {args : List AV} (h : ∀ n, FnS P f args [] n (fun v H' _ => v = .s (.bool true) ∧ H' = [])) (W : World) :
    Calls P f (AV.concs args).toArray W fun e w' => e = .returned (.bool true) ∧ Below W.heap.size W w' ∧ (∀ a, a.block < W.heap.size → w'.frozen? a = W.frozen? a) := by
  refine ((h W.heap.size).2 W W (Mem.start W (fun _ _ _ h => by cases h))).mono ?_
  rintro e w' ⟨v, H', n', rfl, hn, hm, rfl, rfl⟩
  exact ⟨rfl, hm.below, hm.frz⟩

/-! ### Values made of numbers alone -/
def flatPs (P : Program) (g : TypeId → Option (List IntKind)) : List (TypeId × Nat) → Nat → Option (List IntKind)
  | [], _ => some []
  | p :: ps, o => (g p.1).bind fun ks => (flatPs P g ps (o + ks.length)).bind fun r => if p.2 = o ∧ P.cellsOf p.1 = ks.length then some (ks ++ r) else none

def flatK (P : Program) : Nat → TypeId → Option (List IntKind)
  | 0, _ => none
  | d + 1, t =>
    match P.underlying t with
    | some (.int k) => some [k]
    | some (.array n e) => flatPs P (flatK P d) ((List.range n).map fun i => (e, i * P.cellsOf e)) 0
    | some (.struct fs) => flatPs P (flatK P d) (fs.toList.map fun f => (f.type, f.offset)) 0
    | _ => none

section
variable {H : Type} {enc : TypeId × Value → H} {P : Program}

/-- The cells are numbers of these kinds, the places are none, and the reading needs no world. -/
def FlatR (enc : TypeId × Value → H) (P : Program) (t : TypeId) (ks : List IntKind) (fuel : Nat) (cs : List Value) (x : DataW H × List MemPlace) : Prop :=
  (∀ (i : Nat) (k : IntKind), ks[i]? = some k → ∃ z, cs[i]? = some (Value.int k z) ∧ (Lit.int k z).wf = true) ∧ x.2 = [] ∧ ∀ w base sp held, DataW.trod enc P w base sp held fuel t cs = some x

theorem flatPs_sound {g : TypeId → Option (List IntKind)} {w : World} {base : Nat} {sp : Nat → Bool} {held : Bool} {fuel : Nat}
    (hg : ∀ t ks cs x, g t = some ks → cs.length = ks.length → DataW.trod enc P w base sp held fuel t cs = some x → FlatR enc P t ks fuel cs x) (cs : List Value) :
    ∀ (ps : List (TypeId × Nat)) (o : Nat) (r : List IntKind) (xs : List (DataW H × List MemPlace)), flatPs P g ps o = some r → o + r.length ≤ cs.length →
      ps.mapM (fun p => DataW.trod enc P w base sp held fuel p.1 ((cs.drop p.2).take (P.cellsOf p.1))) = some xs →
      (∀ (i : Nat) (k : IntKind), r[i]? = some k → ∃ z, cs[o + i]? = some (Value.int k z) ∧ (Lit.int k z).wf = true) ∧ xs.flatMap (·.2) = [] ∧
        ∀ w' base' sp' held', ps.mapM (fun p => DataW.trod enc P w' base' sp' held' fuel p.1 ((cs.drop p.2).take (P.cellsOf p.1))) = some xs
  | [], o, r, xs, hr, _, hx => by
    simp [flatPs] at hr; subst hr
    simp at hx; subst hx
    exact ⟨fun i k h => by simp at h, rfl, fun _ _ _ _ => by simp⟩
  | p :: ps, o, r, xs, hr, ho, hx => by
    simp only [flatPs, Option.bind_eq_some_iff] at hr
    obtain ⟨ks, hks, r', hr', hif⟩ := hr
    split at hif
    case isFalse => cases hif
    case isTrue hp =>
    cases hif
    rw [List.length_append] at ho
    rw [List.mapM_cons] at hx
    simp only [bind, pure, Option.bind_eq_some_iff, Option.some.injEq] at hx
    obtain ⟨x, hx1, xs', hx2, rfl⟩ := hx
    have hl : ((cs.drop p.2).take (P.cellsOf p.1)).length = ks.length := by
      rw [List.length_take, List.length_drop, hp.2, hp.1]; omega
    obtain ⟨a1, a2, a3⟩ := hg _ _ _ _ hks hl hx1
    obtain ⟨b1, b2, b3⟩ := flatPs_sound hg cs ps (o + ks.length) r' xs' hr' (by omega) hx2
    refine ⟨fun i k h => ?_, by simp [a2, b2], fun w' base' sp' held' => ?_⟩
    · by_cases hi : i < ks.length
      · rw [List.getElem?_append_left hi] at h
        obtain ⟨z, hz, hw⟩ := a1 i k h
        refine ⟨z, ?_, hw⟩
        rw [List.getElem?_take, if_pos (by omega), List.getElem?_drop, hp.1] at hz
        exact hz
      · rw [List.getElem?_append_right (by omega)] at h
        obtain ⟨z, hz, hw⟩ := b1 _ k h
        refine ⟨z, ?_, hw⟩
        rw [show o + i = o + ks.length + (i - ks.length) by omega]
        exact hz
    · rw [List.mapM_cons, a3, b3]; rfl

theorem mapM_mapO {α β γ : Type} (f : α → β) (g : β → Option γ) : ∀ l : List α, (l.map f).mapM g = l.mapM (fun a => g (f a))
  | [] => by simp
  | a :: l => by simp only [List.map_cons, List.mapM_cons, mapM_mapO f g l]

theorem flatK_sound : ∀ (d : Nat) {t : TypeId} {ks : List IntKind} {w : World} {base : Nat} {sp : Nat → Bool} {held : Bool} {fuel : Nat} {cs : List Value} {x : DataW H × List MemPlace},
    flatK P d t = some ks → cs.length = ks.length → DataW.trod enc P w base sp held fuel t cs = some x → FlatR enc P t ks fuel cs x
  | 0, _, _, _, _, _, _, _, _, _, h, _, _ => by simp [flatK] at h
  | d + 1, t, ks, w, base, sp, held, fuel, cs, x, h, hl, hx => by
    rw [flatK] at h
    split at h
    case h_1 k hu =>
      cases h
      obtain ⟨z, rfl, rfl, hw⟩ := DataW.trod_int hu hx
      refine ⟨fun i k' hi => ?_, rfl, fun w' base' sp' held' => ?_⟩
      · cases i with
        | zero => simp at hi; subst hi; exact ⟨z, rfl, hw⟩
        | succ i => simp at hi
      · cases fuel with
        | zero => simp [DataW.trod] at hx
        | succ n => simp [DataW.trod, hu, hw]
    case h_2 n e hu =>
      cases fuel with
      | zero => simp [DataW.trod] at hx
      | succ m =>
        have hlen : cs.length = P.cellsOf t := by
          obtain ⟨_, _, _, _, hlen, _⟩ := DataW.trod_array hu hx
          exact hlen
        have hun : ∀ w base sp held, DataW.trod enc P w base sp held (m + 1) t cs = ((List.range n).mapM fun i => DataW.trod enc P w base sp held m e ((cs.drop (i * P.cellsOf e)).take (P.cellsOf e))).map fun xs => (DataW.agg (xs.map (·.1)), xs.flatMap (·.2)) := by
          intro w base sp held
          conv => lhs; unfold DataW.trod
          rw [hu]
          simp only [hlen, if_true]
        rw [hun] at hx
        simp only [Option.map_eq_some_iff] at hx
        obtain ⟨xs, hxs, rfl⟩ := hx
        rw [← mapM_mapO (fun i => (e, i * P.cellsOf e)) (fun p => DataW.trod enc P w base sp held m p.1 ((cs.drop p.2).take (P.cellsOf p.1)))] at hxs
        obtain ⟨b1, b2, b3⟩ := flatPs_sound (fun t ks cs x h1 h2 h3 => flatK_sound d h1 h2 h3) cs _ 0 ks xs h (by omega) hxs
        refine ⟨fun i k hi => by have := b1 i k hi; rwa [Nat.zero_add] at this, b2, fun w' base' sp' held' => ?_⟩
        rw [hun, ← mapM_mapO (fun i => (e, i * P.cellsOf e)) (fun p => DataW.trod enc P w' base' sp' held' m p.1 ((cs.drop p.2).take (P.cellsOf p.1))), b3]
        rfl
    case h_3 fs hu =>
      cases fuel with
      | zero => simp [DataW.trod] at hx
      | succ m =>
        have hlen : cs.length = P.cellsOf t := by
          obtain ⟨_, _, _, _, hlen, _⟩ := DataW.trod_struct hu hx
          exact hlen
        have hun : ∀ w base sp held, DataW.trod enc P w base sp held (m + 1) t cs = (fs.toList.mapM fun f => DataW.trod enc P w base sp held m f.type ((cs.drop f.offset).take (P.cellsOf f.type))).map fun xs => (DataW.agg (xs.map (·.1)), xs.flatMap (·.2)) := by
          intro w base sp held
          conv => lhs; unfold DataW.trod
          rw [hu]
          simp only [hlen, if_true]
        rw [hun] at hx
        simp only [Option.map_eq_some_iff] at hx
        obtain ⟨xs, hxs, rfl⟩ := hx
        rw [← mapM_mapO (fun f : Field => (f.type, f.offset)) (fun p => DataW.trod enc P w base sp held m p.1 ((cs.drop p.2).take (P.cellsOf p.1)))] at hxs
        obtain ⟨b1, b2, b3⟩ := flatPs_sound (fun t ks cs x h1 h2 h3 => flatK_sound d h1 h2 h3) cs _ 0 ks xs h (by omega) hxs
        refine ⟨fun i k hi => by have := b1 i k hi; rwa [Nat.zero_add] at this, b2, fun w' base' sp' held' => ?_⟩
        rw [hun, ← mapM_mapO (fun f : Field => (f.type, f.offset)) (fun p => DataW.trod enc P w' base' sp' held' m p.1 ((cs.drop p.2).take (P.cellsOf p.1))), b3]
        rfl
    case h_4 => cases h

def isAgg (P : Program) (t : TypeId) : Bool :=
  match P.underlying t with
  | some (.array _ _) => true
  | some (.struct _) => true
  | _ => false

/-- An argument made of numbers alone: an array of numbers of those kinds, which any world reads alike. -/
theorem open_flat (d : Nat) {t : TypeId} {ks : List IntKind} {w : World} {b0 : Nat} {base : Nat} {sp : Nat → Bool} {held : Bool} {v : Value} {D : DataW H} {ps : List MemPlace} {r : Reach}
    (hk : flatK P d t = some ks) (ha : isAgg P t = true) (hl : P.cellsOf t = ks.length) (hval : Value.okWide P w r b0 t v) (hd : DataW.Trod enc P w base sp held t v D ps) :
    ∃ z : Nat → Int, v = (AV.arr ks.length fun i => .int (ks.getD i .u8) (z i)).conc ∧ (∀ i, (Lit.int (ks.getD i .u8) (z i)).wf = true) ∧ ps = [] ∧ ∀ w' base' sp' held', DataW.Trod enc P w' base' sp' held' t v D [] := by
  have hagg : ∃ cs, v = .agg cs ∧ cs.size = P.cellsOf t := by
    unfold isAgg at ha
    unfold Value.okWide at hval
    split at ha
    case h_1 hu => rw [hu] at hval; obtain ⟨cs, h1, h2, _⟩ := hval; exact ⟨cs, h1, h2⟩
    case h_2 hu => rw [hu] at hval; obtain ⟨cs, h1, h2, _⟩ := hval; exact ⟨cs, h1, h2⟩
    case h_3 => cases ha
  obtain ⟨cs, rfl, hsz⟩ := hagg
  obtain ⟨fuel, hf⟩ := hd
  have hlen : (Value.agg cs).cells.toList.length = ks.length := by
    rw [← hl, ← hsz]; simp [Value.cells]
  obtain ⟨a1, a2, a3⟩ := flatK_sound d hk hlen hf
  simp only at a2
  subst a2
  refine ⟨fun i => match cs[i]? with | some (.int _ z) => z | _ => 0, ?_, fun i => ?_, rfl, fun w' base' sp' held' => ⟨fuel, a3 _ _ _ _⟩⟩
  · simp only [AV.conc, Value.agg.injEq]
    apply Array.ext
    · simp [arrC, hsz, hl]
    · intro i h1 h2
      have hi : i < ks.length := by rw [← hl, ← hsz]; exact h1
      obtain ⟨z, hz, _⟩ := a1 i (ks[i]) (by simp [hi])
      simp only [Value.cells, Array.getElem?_toList] at hz
      have he : cs[i] = .int ks[i] z := by
        have := hz
        rw [Array.getElem?_eq_getElem h1] at this
        exact Option.some.inj this
      simp only [arrC, Array.getElem_ofFn, SV.conc, hz]
      rw [he]
      simp [hi]
  · by_cases hi : i < ks.length
    · obtain ⟨z, hz, hw⟩ := a1 i (ks[i]) (by simp [hi])
      simp only [Value.cells, Array.getElem?_toList] at hz
      simp only [hz]
      simp only [List.getD, List.getElem?_eq_getElem hi, Option.getD_some]
      exact hw
    · have : cs[i]? = none := by
        rw [Array.getElem?_eq_none_iff]; omega
      simp only [this, List.getD, List.getElem?_eq_none_iff.2 (Nat.le_of_not_lt hi), Option.getD_none]
      rfl
end
end Go.V
