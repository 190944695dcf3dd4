/- Regions in an open order: quiet operations that all effects wait for, other quiet ones, and effects, of which two may be ready at once. -/
import Derived.Test.YtgnphaopeplfbaaGreatDoorJaf
set_option linter.unusedSectionVars false
set_option linter.unusedVariables false
set_option linter.unusedSimpArgs false
namespace Go.V
variable [BW]
set_option linter.unusedSimpArgs false
set_option linter.unusedVariables false

section
variable {P : Program} {ops : Array Oper} {md : Region.Mode} {H F : Hp} {n m : Nat} {eff early : Nat → Bool} {K : Act → Hp → Prop}

def fr (H F : Hp) (early : Nat → Bool) (i : Nat) : Hp := if early i = true then H else F

def kOp2 (P : Program) (ops : Array Oper) (H F : Hp) (n m : Nat) (eff early : Nat → Bool) (i : Nat) (K : Act → Hp → Prop) (a : Act) (Hc : Hp) : Prop :=
  match ops[i]? with
  | none => False
  | some o => if eff i = true then o.guard = none ∧ eRun P n m o a Hc (fun v Hc' => Ext F Hc' ∧ (gentle P o = true → Ext Hc Hc') ∧ K (a.put o.dst v) Hc')
    else if Region.wanted o (yielded ops a.tmps) then ∃ v, qAt P (fr H F early i) n o a v ∧ K (a.put o.dst v) Hc else K (a.put o.dst undef) Hc

def wpMix2 (P : Program) (md : Region.Mode) (ops : Array Oper) (H F : Hp) (n m : Nat) (eff early : Nat → Bool) (K : Act → Hp → Prop) : Nat → Array Bool → Act → Hp → Prop
  | 0, listed, a, Hc => Region.ready md ops listed = [] ∧ K a Hc
  | f + 1, listed, a, Hc => (Region.ready md ops listed = [] → K a Hc) ∧ ∀ i ∈ Region.ready md ops listed, kOp2 P ops H F n m eff early i (wpMix2 P md ops H F n m eff early K f (listed.setIfInBounds i true)) a Hc

/-- j waits for k, through so many others. -/
def depB (md : Region.Mode) (ops : Array Oper) : Nat → Nat → Nat → Bool
  | 0, _, _ => false
  | f + 1, j, k => match ops[j]? with
    | none => false
    | some o => o.after.any fun e => Region.binds md e && (e.on == k || depB md ops f e.on k)

structure Inv2 (md : Region.Mode) (ops : Array Oper) (eff early : Nat → Bool) (listed : Array Bool) : Prop where
  closed : ∀ j oj, ops[j]? = some oj → listed.getD j false = true → ∀ e ∈ oj.after, Region.binds md e = true → listed.getD e.on false = true
  calm : ∀ k, early k = true → listed.getD k false = false → ∀ j, eff j = true → listed.getD j false = false

theorem depB_spec {listed : Array Bool} (hc : ∀ j oj, ops[j]? = some oj → listed.getD j false = true → ∀ e ∈ oj.after, Region.binds md e = true → listed.getD e.on false = true) {k : Nat} (hk : listed.getD k false = false) :
    ∀ (f j : Nat), depB md ops f j k = true → ∃ oj, ops[j]? = some oj ∧ ∃ e ∈ oj.after, Region.binds md e = true ∧ listed.getD e.on false = false
  | 0, j, h => by simp [depB] at h
  | f + 1, j, h => by
    unfold depB at h
    cases ho : ops[j]? with
    | none => simp only [ho] at h; cases h
    | some oj =>
      simp only [ho] at h
      obtain ⟨e, he, hb⟩ := Array.any_eq_true'.1 h
      simp only [Bool.and_eq_true, Bool.or_eq_true, beq_iff_eq] at hb
      refine ⟨oj, rfl, e, he, hb.1, ?_⟩
      rcases hb.2 with h1 | h1
      · rw [h1]; exact hk
      · obtain ⟨o2, ho2, e2, he2, hb2, hl2⟩ := depB_spec hc hk f e.on h1
        cases hx : listed.getD e.on false with
        | false => rfl
        | true => rw [hc e.on o2 ho2 hx e2 he2 hb2] at hl2; cases hl2

/-- Each effect waits for another effect, or for all that are early. -/
def calmB (md : Region.Mode) (ops : Array Oper) (es qe : List Nat) : Bool :=
  es.all fun j => (match ops[j]? with | none => false | some o => o.after.any fun e => Region.binds md e && es.contains e.on) || qe.all fun k => depB md ops 8 j k

theorem calm_ready {es qe : List Nat} {listed : Array Bool} (hB : calmB md ops es qe = true) (hI : Inv2 md ops (fun i => es.contains i) (fun i => qe.contains i) listed) {k : Nat} (hk : qe.contains k = true) (hu : listed.getD k false = false) {j : Nat} (hj : j ∈ Region.ready md ops listed) : es.contains j = false := by
  cases hx : es.contains j with
  | false => rfl
  | true =>
    exfalso
    obtain ⟨hjun, oj, hoj, hall⟩ := mem_ready.1 hj
    have h1 := List.all_eq_true.1 hB j (by simpa using hx)
    rw [Bool.or_eq_true] at h1
    rcases h1 with h1 | h1
    · simp only [hoj] at h1
      obtain ⟨e, he, hb⟩ := Array.any_eq_true'.1 h1
      simp only [Bool.and_eq_true] at hb
      have h2 := hall e he hb.1
      rw [hI.calm k hk hu e.on hb.2] at h2
      cases h2
    · have h2 := List.all_eq_true.1 h1 k (by simpa using hk)
      obtain ⟨o2, ho2, e, he, hb, hl⟩ := depB_spec hI.closed hu 8 j h2
      rw [hoj] at ho2
      cases ho2
      rw [hall e he hb] at hl
      cases hl

theorem getD_set {listed : Array Bool} {i j : Nat} : (listed.setIfInBounds i true).getD j false = true → j = i ∨ listed.getD j false = true := by
  intro h
  by_cases e : j = i
  · exact .inl e
  · right
    simp only [Array.getD_eq_getD_getElem?, Array.getElem?_setIfInBounds] at h ⊢
    rw [if_neg (fun h => e h.symm)] at h
    exact h
theorem getD_set_mono {listed : Array Bool} {i j : Nat} (h : listed.getD j false = true) : (listed.setIfInBounds i true).getD j false = true := by
  simp only [Array.getD_eq_getD_getElem?, Array.getElem?_setIfInBounds] at h ⊢
  split
  · split
    · rfl
    · rename_i h1 h2
      subst h1
      rw [Array.getElem?_eq_none (by omega)] at h
      exact h
  · exact h

theorem Inv2.set {es qe : List Nat} {listed : Array Bool} (hB : calmB md ops es qe = true) (hI : Inv2 md ops (fun i => es.contains i) (fun i => qe.contains i) listed) {i : Nat} (hi : i ∈ Region.ready md ops listed) : Inv2 md ops (fun i => es.contains i) (fun i => qe.contains i) (listed.setIfInBounds i true) := by
  obtain ⟨hun, oi, hoi, hall⟩ := mem_ready.1 hi
  refine ⟨fun j oj hoj hl e he hb => ?_, fun k hk hu j hj => ?_⟩
  · rcases getD_set hl with h | h
    · subst h
      rw [hoi] at hoj
      cases hoj
      exact getD_set_mono (hall e he hb)
    · exact getD_set_mono (hI.closed j oj hoj h e he hb)
  · have hu' : listed.getD k false = false := by
      cases hx : listed.getD k false with
      | false => rfl
      | true => rw [getD_set_mono hx] at hu; cases hu
    cases hx : (listed.setIfInBounds i true).getD j false with
    | false => rfl
    | true =>
      rcases getD_set hx with h | h
      · subst h
        have := calm_ready hB hI hk hu' hi
        exact absurd ((show es.contains j = true from hj)) (by rw [this]; simp)
      · rw [hI.calm k hk hu' j hj] at h
        cases h

theorem wpAny_of_mix2 {es hs qe : List Nat} (hgl : ∀ i o, ops[i]? = some o → es.contains i = true → hs.contains i = false → gentle P o = true) (hB : calmB md ops hs qe = true) {w0 : World} (hm0 : w0.heap.size ≤ m) {Q' : Exit → Act → World → Prop} (hQ : ∀ a Hc n' w, K a Hc → n ≤ n' → Mem w0 Hc n' w → Q' .normal a w) :
    ∀ (f : Nat) (listed : Array Bool) (a : Act) (Hc : Hp) (n' : Nat) (w : World), Inv2 md ops (fun i => hs.contains i) (fun i => qe.contains i) listed → n ≤ n' → Ext F Hc → (∀ k, qe.contains k = true → listed.getD k false = false → Ext H Hc) → Mem w0 Hc n' w →
      wpMix2 P md ops H F n m (fun i => es.contains i) (fun i => qe.contains i) K f listed a Hc → wpAny P md ops Q' f listed a w
  | 0, listed, a, Hc, n', w, hI, hn, he, hh, hw, h => ⟨h.1, hQ _ _ _ _ h.2 hn hw⟩
  | f + 1, listed, a, Hc, n', w, hI, hn, he, hh, hw, h => by
    refine ⟨fun h0 => hQ _ _ _ _ (h.1 h0) hn hw, fun i hi => ?_⟩
    have hk := h.2 i hi
    have hI' := hI.set hB hi
    have hh' : ∀ k, qe.contains k = true → (listed.setIfInBounds i true).getD k false = false → listed.getD k false = false := fun k hk hu => by
      cases hx : listed.getD k false with
      | false => rfl
      | true => rw [getD_set_mono hx] at hu; cases hu
    unfold kOp2 at hk
    unfold wpOp
    split at hk
    · exact hk.elim
    · rename_i o ho
      simp only [ho]
      split at hk
      · rename_i hef
        obtain ⟨hg, hr⟩ := hk
        rw [if_pos (by simp [Region.wanted, hg])]
        refine .inl ?_
        obtain ⟨v, w', Hc', n'', hrun, hn2, hm2, he2, hge, hk2⟩ := hr w0 w n' hn hm0 hw
        have hno : ∀ k, qe.contains k = true → (listed.setIfInBounds i true).getD k false = false → Ext H Hc' := fun k hk hu => by
          have h1 := hge (hgl i o ho hef (calm_ready hB hI hk (hh' k hk hu) hi))
          exact fun b k' hb => h1 b k' (hh k hk (hh' k hk hu) b k' hb)
        unfold Oper.wp
        rcases hrun with hrun | ⟨hrun, rfl⟩
        · rw [hrun]; simp only [Oper.upon]
          exact wpAny_of_mix2 hgl hB hm0 hQ f _ _ Hc' n'' w' hI' (by omega) he2 hno hm2 hk2
        · rw [hrun]; simp only [Oper.upon]
          exact wpAny_of_mix2 hgl hB hm0 hQ f _ _ Hc' n'' w' hI' (by omega) he2 hno hm2 hk2
      · have hno : ∀ k, qe.contains k = true → (listed.setIfInBounds i true).getD k false = false → Ext H Hc := fun k hk hu => hh k hk (hh' k hk hu)
        split at hk
        · rename_i hwant
          rw [if_pos hwant]
          refine .inl ?_
          obtain ⟨v, hq, hk2⟩ := hk
          have hfe : Ext (fr H F (fun i => qe.contains i) i) Hc := by
            unfold fr
            split
            · rename_i hq1
              refine hh i hq1 ?_
              have hun := (mem_ready.1 hi).1
              simp only [Array.getD_eq_getD_getElem?] at hun ⊢
              cases hx : listed[i]? with
              | none => rfl
              | some b => rw [hx] at hun; simpa using hun
            · exact he
          have h3 := hq w w ⟨n', hn, hw.selfBase hfe⟩
          unfold Oper.quietAt at h3
          unfold Oper.wp
          generalize (execOp a.eval o).run P w = r at h3
          cases r with
          | ok x w' =>
            cases x <;> simp only [Oper.quietUpon] at h3 <;> simp only [Oper.upon]
            case value u =>
              obtain ⟨e1, e2⟩ := h3
              rw [e1, e2]
              exact wpAny_of_mix2 hgl hB hm0 hQ f _ _ Hc n' w hI' hn he hno hw hk2
            case skip =>
              obtain ⟨e1, e2⟩ := h3
              rw [e1, ← e2]
              exact wpAny_of_mix2 hgl hB hm0 hQ f _ _ Hc n' w hI' hn he hno hw hk2
            case enter fn args =>
              obtain ⟨e1, hc⟩ := h3
              rw [e1]
              refine hc.mono fun e w'' ⟨he', n'', hn'', hw''⟩ => ?_
              subst he'
              exact wpAny_of_mix2 hgl hB hm0 hQ f _ _ Hc n'' w'' hI' hn'' he hno (hw.back hfe hw'') hk2
          | halt x w' => simp only [Oper.quietUpon] at h3
        · rename_i hwant
          rw [if_neg hwant]
          exact wpAny_of_mix2 hgl hB hm0 hQ f _ _ Hc n' w hI' hn he hno hw hk

theorem YieldsM.kOp2 {i : Nat} {o : Oper} {v : Value} {a : Act} {Hc : Hp} (hi : ops[i]? = some o) (hf : eff i = false) (hy : YieldsM P ops (fr H F early i) n o v a) (h : K (a.put o.dst v) Hc) : kOp2 P ops H F n m eff early i K a Hc := by
  unfold V.kOp2
  simp only [hi, hf, Bool.false_eq_true, if_false]
  rcases hy with ⟨hw, hv⟩ | ⟨hw, rfl⟩
  · rw [if_pos hw]; exact ⟨v, hv, h⟩
  · rw [if_neg (by simp [hw])]; exact h

theorem yieldsM_of_kOp2 {i : Nat} {o : Oper} {a : Act} {Hc : Hp} (hi : ops[i]? = some o) (hf : eff i = false) (h : kOp2 P ops H F n m eff early i K a Hc) : ∃ v, YieldsM P ops (fr H F early i) n o v a ∧ K (a.put o.dst v) Hc := by
  unfold kOp2 at h
  simp only [hi, hf, Bool.false_eq_true, if_false] at h
  by_cases hw : Region.wanted o (yielded ops a.tmps) = true
  · rw [if_pos hw] at h
    obtain ⟨v, h1, h2⟩ := h
    exact ⟨v, .inl ⟨hw, h1⟩, h2⟩
  · rw [if_neg hw] at h
    exact ⟨undef, .inr ⟨by simpa using hw, rfl⟩, h⟩

theorem kOp2_mono {i : Nat} {a : Act} {Hc : Hp} {K K' : Act → Hp → Prop} (h : ∀ a Hc, K a Hc → K' a Hc) (hh : kOp2 P ops H F n m eff early i K a Hc) : kOp2 P ops H F n m eff early i K' a Hc := by
  unfold kOp2 at *
  split
  · rename_i ho; simp only [ho] at hh
  · rename_i o ho
    simp only [ho] at hh
    split
    · rename_i hw; rw [if_pos hw] at hh
      refine ⟨hh.1, fun w0 w n' h1 h2 h3 => ?_⟩
      obtain ⟨v, w', Hc', n'', hrun, hn2, hm2, he2, hge, hk2⟩ := hh.2 w0 w n' h1 h2 h3
      exact ⟨v, w', Hc', n'', hrun, hn2, hm2, he2, hge, h _ _ hk2⟩
    · rename_i hw; rw [if_neg hw] at hh
      split
      · rename_i hw2; rw [if_pos hw2] at hh; obtain ⟨v, h1, h2⟩ := hh; exact ⟨v, h1, h _ _ h2⟩
      · rename_i hw2; rw [if_neg hw2] at hh; exact h _ _ hh

theorem kOp2_put {G : Hp} {j : Nat} {oi oj : Oper} {v : Value} (hj : ops[j]? = some oj) (hap : oi.apart ops oj = true)
    (hsi : ∀ cs b, oi.op ≠ .select cs b) (hsj : ∀ cs b, oj.op ≠ .select cs b) {K : Act → Hp → Prop} {a : Act} {Hc : Hp}
    (hy : YieldsM P ops G n oi v a) (h : kOp2 P ops H F n m eff early j K (a.put oi.dst v) Hc) :
    kOp2 P ops H F n m eff early j (fun a' Hc' => YieldsM P ops G n oi v a' ∧ K (a'.put oi.dst v) Hc') a Hc := by
  obtain ⟨h1, h2, h3⟩ := Oper.apart_spec hap
  have keep : ∀ (a : Act), YieldsM P ops G n oi v a → ∀ u, YieldsM P ops G n oi v (a.put oj.dst u) := fun a hy u =>
    hy.of_same (execOp_put oi hsi a oj.dst u h3) (wanted_put oi a oj.dst u h3)
  unfold kOp2 at *
  simp only [hj] at *
  split
  · rename_i hf
    rw [if_pos hf] at h
    refine ⟨h.1, fun w0 w n' q1 q2 q3 => ?_⟩
    obtain ⟨u, w', Hc', n'', hrun, hn2, hm2, he2, hge, hk2⟩ := h.2 w0 w n' q1 q2 q3
    rw [execOp_put oj hsj a oi.dst v h1] at hrun
    exact ⟨u, w', Hc', n'', hrun, hn2, hm2, he2, hge, keep a hy u, by rw [← Act.put_comm a v u h2]; exact hk2⟩
  · rename_i hf
    rw [if_neg hf] at h
    rw [wanted_put oj a oi.dst v h1] at h
    split
    · rename_i hw
      rw [if_pos hw] at h
      obtain ⟨u, hu, hn⟩ := h
      refine ⟨u, fun w0 w hw' => ?_, keep a hy u, by rw [← Act.put_comm a v u h2]; exact hn⟩
      have := hu w0 w hw'
      unfold Oper.quietAt at *
      rwa [execOp_put oj hsj a oi.dst v h1] at this
    · rename_i hw
      rw [if_neg hw] at h
      exact ⟨keep a hy _, by rw [← Act.put_comm a v undef h2]; exact h⟩

theorem wpMix2_first {i : Nat} {oi : Oper} {v : Value} (hi : ops[i]? = some oi) (hfi : eff i = false) (hsel : ∀ (j : Nat) (o : Oper) cs b, ops[j]? = some o → o.op ≠ .select cs b) :
    ∀ (fuel : Nat) (listed : Array Bool) (a : Act) (Hc : Hp),
      (∀ j oj, ops[j]? = some oj → j ≠ i → listed.getD j true = false → (∀ e ∈ oj.after, Region.binds md e = true → e.on ≠ i) → oi.apart ops oj = true) →
      i ∈ Region.ready md ops listed → YieldsM P ops (fr H F early i) n oi v a →
      wpMix2 P md ops H F n m eff early K fuel (listed.setIfInBounds i true) (a.put oi.dst v) Hc → wpMix2 P md ops H F n m eff early K (fuel + 1) listed a Hc := by
  intro fuel
  induction fuel with
  | zero =>
    intro listed a Hc _ hr hy hh
    refine ⟨fun h => (by rw [h] at hr; cases hr), fun j hj => ?_⟩
    by_cases hji : j = i
    · subst hji; exact hy.kOp2 hi hfi hh
    · have := ready_mono hj hji
      rw [hh.1] at this
      cases this
  | succ fuel ih =>
    intro listed a Hc hfree hr hy hh
    refine ⟨fun h => (by rw [h] at hr; cases hr), fun j hj => ?_⟩
    by_cases hji : j = i
    · subst hji; exact hy.kOp2 hi hfi hh
    · have h1 := hh.2 j (ready_mono hj hji)
      obtain ⟨hjun, oj, hoj, hall⟩ := mem_ready.1 hj
      have hnot : ∀ e ∈ oj.after, Region.binds md e = true → e.on ≠ i := fun e he hb heq => by
        have h1 := hall e he hb
        have h0 := (mem_ready.1 hr).1
        rw [heq] at h1
        rcases Nat.lt_or_ge i listed.size with h' | h'
        · simp [h'] at h0 h1; rw [h0] at h1; cases h1
        · simp [Array.getElem?_eq_none h'] at h1
      have h2 := kOp2_put hoj (hfree j oj hoj hji hjun hnot) (fun cs b => hsel i oi cs b hi) (fun cs b => hsel j oj cs b hoj) hy h1
      have hfree' : ∀ k ok, ops[k]? = some ok → k ≠ i → (listed.setIfInBounds j true).getD k true = false →
          (∀ e ∈ ok.after, Region.binds md e = true → e.on ≠ i) → oi.apart ops ok = true := fun k ok hk hki hun hno => by
        refine hfree k ok hk hki ?_ hno
        by_cases hjk : j = k
        · subst hjk; exact hjun
        · rw [getD_set_ne true hjk] at hun; exact hun
      refine kOp2_mono (fun a' Hc' h3 => ih (listed.setIfInBounds j true) a' Hc' hfree' (ready_mono hr (Ne.symm hji)) h3.1 ?_) h2
      rw [Array.setIfInBounds_comm _ _ hji]
      exact h3.2

/-! ### Effects in a tree of orders -/
def etB (md : Region.Mode) (ops : Array Oper) : OT → Array Bool → Bool
  | .done, listed => (Region.ready md ops listed).isEmpty
  | .seg k t, listed => decide (Region.ready md ops listed = [k]) && etB md ops t (listed.setIfInBounds k true)
  | .fork (.seg k1 t1) (.seg k2 t2), listed => decide (Region.ready md ops listed = [k1, k2]) && etB md ops t1 (listed.setIfInBounds k1 true) && etB md ops t2 (listed.setIfInBounds k2 true)
  | .fork (.seg k1 t1) (.fork (.seg k2 t2) (.seg k3 t3)), listed => decide (Region.ready md ops listed = [k1, k2, k3]) && etB md ops t1 (listed.setIfInBounds k1 true) && etB md ops t2 (listed.setIfInBounds k2 true) && etB md ops t3 (listed.setIfInBounds k3 true)
  | .fork _ _, _ => false

def wpE (P : Program) (ops : Array Oper) (H F : Hp) (n m : Nat) (eff early : Nat → Bool) (K : Act → Hp → Prop) : OT → Act → Hp → Prop
  | .done, a, Hc => K a Hc
  | .seg k t, a, Hc => kOp2 P ops H F n m eff early k (wpE P ops H F n m eff early K t) a Hc
  | .fork t1 t2, a, Hc => wpE P ops H F n m eff early K t1 a Hc ∧ wpE P ops H F n m eff early K t2 a Hc

theorem wpMix2_empty {listed : Array Bool} {a : Act} {Hc : Hp} (h0 : Region.ready md ops listed = []) (h : K a Hc) : ∀ (f : Nat), wpMix2 P md ops H F n m eff early K f listed a Hc
  | 0 => ⟨h0, h⟩
  | f + 1 => ⟨fun _ => h, fun i hi => by rw [h0] at hi; cases hi⟩

theorem mix2_tree : ∀ (t : OT) (f : Nat) (listed : Array Bool) (a : Act) (Hc : Hp), t.len ≤ f → etB md ops t listed = true → wpE P ops H F n m eff early K t a Hc → wpMix2 P md ops H F n m eff early K f listed a Hc
  | .done, f, listed, a, Hc, hf, hB, h => wpMix2_empty (by simpa [etB] using hB) h f
  | .seg k t, 0, listed, a, Hc, hf, hB, h => by unfold OT.len at hf; omega
  | .seg k t, f + 1, listed, a, Hc, hf, hB, h => by
    simp only [etB, Bool.and_eq_true, decide_eq_true_eq] at hB
    refine ⟨fun h1 => (by rw [hB.1] at h1; cases h1), fun i hi => ?_⟩
    rw [hB.1] at hi
    have hik : i = k := by simpa using hi
    subst hik
    exact kOp2_mono (fun a' Hc' h' => mix2_tree t f _ a' Hc' (by unfold OT.len at hf; omega) hB.2 h') h
  | .fork (.seg k1 t1) (.seg k2 t2), 0, listed, a, Hc, hf, hB, h => by simp only [OT.len] at hf; omega
  | .fork (.seg k1 t1) (.seg k2 t2), f + 1, listed, a, Hc, hf, hB, h => by
    simp only [etB, Bool.and_eq_true, decide_eq_true_eq] at hB
    obtain ⟨⟨h0, hB1⟩, hB2⟩ := hB
    refine ⟨fun h1 => (by rw [h0] at h1; cases h1), fun i hi => ?_⟩
    rw [h0] at hi
    simp only [OT.len] at hf
    have hik : i = k1 ∨ i = k2 := by simpa using hi
    rcases hik with rfl | rfl
    · exact kOp2_mono (fun a' Hc' h' => mix2_tree t1 f _ a' Hc' (by omega) hB1 h') h.1
    · exact kOp2_mono (fun a' Hc' h' => mix2_tree t2 f _ a' Hc' (by omega) hB2 h') h.2
  | .fork .done t2, f, listed, a, Hc, hf, hB, h => by simp [etB] at hB
  | .fork (.fork x y) t2, f, listed, a, Hc, hf, hB, h => by simp [etB] at hB
  | .fork (.seg k t) .done, f, listed, a, Hc, hf, hB, h => by simp [etB] at hB
  | .fork (.seg k1 t1) (.fork (.seg k2 t2) (.seg k3 t3)), 0, listed, a, Hc, hf, hB, h => by simp only [OT.len] at hf; omega
  | .fork (.seg k1 t1) (.fork (.seg k2 t2) (.seg k3 t3)), f + 1, listed, a, Hc, hf, hB, h => by
    simp only [etB, Bool.and_eq_true, decide_eq_true_eq] at hB
    obtain ⟨⟨⟨h0, hB1⟩, hB2⟩, hB3⟩ := hB
    refine ⟨fun h1 => (by rw [h0] at h1; cases h1), fun i hi => ?_⟩
    rw [h0] at hi
    simp only [OT.len] at hf
    have hik : i = k1 ∨ i = k2 ∨ i = k3 := by simpa using hi
    rcases hik with rfl | rfl | rfl
    · exact kOp2_mono (fun a' Hc' h' => mix2_tree t1 f _ a' Hc' (by omega) hB1 h') h.1
    · exact kOp2_mono (fun a' Hc' h' => mix2_tree t2 f _ a' Hc' (by omega) hB2 h') h.2.1
    · exact kOp2_mono (fun a' Hc' h' => mix2_tree t3 f _ a' Hc' (by omega) hB3 h') h.2.2
  | .fork (.seg k t) (.fork .done y), f, listed, a, Hc, hf, hB, h => by simp [etB] at hB
  | .fork (.seg k t) (.fork (.fork _ _) y), f, listed, a, Hc, hf, hB, h => by simp [etB] at hB
  | .fork (.seg k t) (.fork (.seg _ _) .done), f, listed, a, Hc, hf, hB, h => by simp [etB] at hB
  | .fork (.seg k t) (.fork (.seg _ _) (.fork _ _)), f, listed, a, Hc, hf, hB, h => by simp [etB] at hB

def wpI2 (P : Program) (ops : Array Oper) (H F : Hp) (n m : Nat) (eff early : Nat → Bool) (K : Act → Hp → Prop) : List Nat → Act → Hp → Prop
  | [], a, Hc => K a Hc
  | k :: r, a, Hc => kOp2 P ops H F n m eff early k (wpI2 P ops H F n m eff early K r) a Hc

theorem mix2_lex (hs : Region.noSelect ops = true) (t : OT) (g : Nat) (hg : t.len ≤ g) : ∀ (qs : List Nat) (listed : Array Bool) (a : Act) (Hc : Hp), lexQ md ops qs listed = true → etB md ops t (listAll qs listed) = true → (∀ k ∈ qs, eff k = false) →
    wpI2 P ops H F n m eff early (wpE P ops H F n m eff early K t) qs a Hc → wpMix2 P md ops H F n m eff early K (qs.length + g) listed a Hc
  | [], listed, a, Hc, _, hE, _, h => by
    simp only [List.length_nil, Nat.zero_add]
    exact mix2_tree t g listed a Hc hg hE h
  | k :: r, listed, a, Hc, hB, hE, hf, h => by
    simp only [lexQ, Bool.and_eq_true] at hB
    obtain ⟨⟨hr, hfr⟩, hB'⟩ := hB
    have hk : kOp2 P ops H F n m eff early k (wpI2 P ops H F n m eff early (wpE P ops H F n m eff early K t) r) a Hc := h
    cases ho : ops[k]? with
    | none => unfold kOp2 at hk; simp only [ho] at hk
    | some o =>
      obtain ⟨v, hy, hK⟩ := yieldsM_of_kOp2 ho (hf k (by simp)) hk
      rw [show (k :: r).length + g = (r.length + g) + 1 by simp only [List.length_cons]; omega]
      exact wpMix2_first ho (hf k (by simp)) (Region.noSelect_spec hs) _ listed a Hc (Region.free_spec ho hfr) (by simpa using hr) hy
        (mix2_lex hs t g hg r _ _ Hc hB' hE (fun k' hk' => hf k' (by simp [hk'])) hK)

def OT.all (f : Nat → Bool) : OT → Bool
  | .done => true
  | .seg k t => f k && t.all f
  | .fork t1 t2 => t1.all f && t2.all f

/-- q1: quiet operations that all effects wait for which do more than make a block (hs); q2: other ones; t: the effects, all of es. -/
def mix2B (md : Region.Mode) (ops : Array Oper) (q1 q2 es hs : List Nat) (t : OT) : Bool :=
  Region.noSelect ops && lexQ md ops (q1 ++ q2) (Array.replicate ops.size false) && etB md ops t (listAll (q1 ++ q2) (Array.replicate ops.size false)) && decide ((q1 ++ q2).length + t.len ≤ ops.size)
    && (q1 ++ q2).all (fun k => decide (k < ops.size) && !es.contains k) && t.all (fun k => decide (k < ops.size) && es.contains k) && calmB md ops hs q1 && q2.all (fun k => !q1.contains k)

theorem wp_region_mix2 {id : Nat} {Q : Exit → Act → World → Prop} {a : Act} {w0 w : World} {q1 q2 es hs : List Nat} {t : OT} (hm : P.follows .mixedOrders = true) (hgl : ∀ i o, ops[i]? = some o → es.contains i = true → hs.contains i = false → gentle P o = true) (hB : mix2B .any ops q1 q2 es hs t = true) (hF : Ext F H)
    (hsz : w0.heap.size ≤ m) (hw : Mem w0 H n w) (hK : ∀ a Hc n' w, K a Hc → n ≤ n' → Mem w0 Hc n' w → Q .normal a w)
    (h : wpI2 P ops H F n m (fun i => es.contains i) (fun i => q1.contains i) (wpE P ops H F n m (fun i => es.contains i) (fun i => q1.contains i) K t) (q1 ++ q2) a H) : (Code.region id ops true).wp P Q a w := by
  simp only [mix2B, Bool.and_eq_true, decide_eq_true_eq] at hB
  obtain ⟨⟨⟨⟨⟨⟨⟨h1, h2⟩, h3⟩, h4⟩, h5⟩, h6⟩, h7⟩, h8⟩ := hB
  refine wp_region_any hm ?_
  have key := mix2_lex (md := .any) (P := P) (H := H) (F := F) (n := n) (m := m) (eff := fun i => es.contains i) (early := fun i => q1.contains i) (K := K) h1 t (ops.size - (q1 ++ q2).length) (by omega) (q1 ++ q2) _ a H h2 h3 (fun k hk => by
    have := List.all_eq_true.1 h5 k hk
    simp only [Bool.and_eq_true, decide_eq_true_eq, Bool.not_eq_true'] at this
    exact this.2) h
  rw [show (q1 ++ q2).length + (ops.size - (q1 ++ q2).length) = ops.size by omega] at key
  have hr : ∀ j, (Array.replicate ops.size false).getD j false = false := fun j => by
    simp only [Array.getD_eq_getD_getElem?, Array.getElem?_replicate]
    split <;> rfl
  exact wpAny_of_mix2 (F := F) hgl h7 (w0 := w0) hsz hK _ _ _ H n _ ⟨(fun j oj _ hl => by rw [hr j] at hl; cases hl), (fun k _ _ j _ => hr j)⟩ (Nat.le_refl _) hF (fun k _ _ => fun _ _ h => h) (hw.drew _) key
end

/-! ### Lists -/
section
variable {P : Program}

theorem wpI2_of_q {ops : Array Oper} {H F G : Hp} {n m : Nat} {eff early : Nat → Bool} {K : Act → Hp → Prop} (rest : List Nat) (Hc : Hp) : ∀ (qs : List Nat) (a : Act), (∀ k ∈ qs, k < ops.size ∧ eff k = false ∧ fr H F early k = G) →
    wpQ P ops G n (fun a' => wpI2 P ops H F n m eff early K rest a' Hc) (pick qs ops.toList) a → wpI2 P ops H F n m eff early K (qs ++ rest) a Hc
  | [], a, _, h => h
  | k :: qs, a, hk, h => by
    obtain ⟨hlt, hf, hg⟩ := hk k (by simp)
    have ho : ops[k]? = some ops[k] := by simp [hlt]
    have ho' : ops.toList[k]? = some ops[k] := by simp [hlt]
    unfold pick at h
    rw [List.filterMap_cons, ho'] at h
    rw [List.cons_append]
    unfold wpI2 kOp2
    simp only [ho, hf, Bool.false_eq_true, if_false]
    unfold wpQ at h
    split at h
    · rename_i hw
      rw [if_pos hw]
      obtain ⟨v, h1, h2⟩ := h
      exact ⟨v, by rw [hg]; exact h1, wpI2_of_q rest Hc qs _ (fun k' hk' => hk k' (by simp [hk'])) h2⟩
    · rename_i hw
      rw [if_neg hw]
      exact wpI2_of_q rest Hc qs _ (fun k' hk' => hk k' (by simp [hk'])) h

theorem wpE_of_ef {ops : Array Oper} {H F : Hp} {n m : Nat} {eff early : Nat → Bool} {K : Act → Hp → Prop} : ∀ (t : OT) (a : Act) (Hc : Hp), (∀ k ∈ t.os, k < ops.size ∧ eff k = true) →
    wpEf P n m F (wpE P ops H F n m eff early K t.rest) (pick t.os ops.toList) a Hc → wpE P ops H F n m eff early K t a Hc
  | .done, a, Hc, _, h => h
  | .fork t1 t2, a, Hc, _, h => h
  | .seg k t, a, Hc, hk, h => by
    obtain ⟨hlt, hf⟩ := hk k (by simp [OT.os])
    have ho : ops[k]? = some ops[k] := by simp [hlt]
    have ho' : ops.toList[k]? = some ops[k] := by simp [hlt]
    unfold OT.os pick at h
    rw [List.filterMap_cons, ho'] at h
    unfold wpE kOp2
    simp only [ho, hf, if_true]
    obtain ⟨h1, h2⟩ := h
    refine ⟨h1, fun w0 w n' q1 q2 q3 => ?_⟩
    obtain ⟨v, w', Hc', n'', hrun, hn2, hm2, he2, hge, hk2⟩ := h2 w0 w n' q1 q2 q3
    exact ⟨v, w', Hc', n'', hrun, hn2, hm2, he2, hge, wpE_of_ef t _ Hc' (fun k' hk' => hk k' (by simp [OT.os, hk'])) hk2⟩

/-- Effects in a tree of orders, of the list l. -/
def MT (P : Program) (N m : Nat) (F : Hp) (n : Nat) (l : List Ins) (t : OT) (e : Env) (Hc : Hp) (K : Env → Hp → Prop) : Prop :=
  ∀ (ops : Array Oper) (H : Hp) (eff early : Nat → Bool), ops.toList.mapM (trOp P N ops) = some l → t.all (fun k => decide (k < ops.size) && eff k) = true → ∀ (a : Act) (Ka : Act → Hp → Prop), Ag N e a → Ext F Hc → (∀ b, n ≤ b → F.get b = none) →
    (∀ e' a' Hc', K e' Hc' → Ag N e' a' → Ka a' Hc') → wpE P ops H F n m eff early Ka t a Hc

theorem MT.done {N m : Nat} {F : Hp} {n : Nat} {l : List Ins} {e : Env} {Hc : Hp} {K : Env → Hp → Prop} (h : K e Hc) : MT P N m F n l .done e Hc K := by
  intro ops H eff early hl ht a Ka hag he hf hK
  exact hK _ _ _ h hag
theorem MT.fork {N m : Nat} {F : Hp} {n : Nat} {l : List Ins} {t1 t2 : OT} {e : Env} {Hc : Hp} {K : Env → Hp → Prop} (h1 : MT P N m F n l t1 e Hc K) (h2 : MT P N m F n l t2 e Hc K) : MT P N m F n l (.fork t1 t2) e Hc K := by
  intro ops H eff early hl ht a Ka hag he hf hK
  unfold OT.all at ht
  rw [Bool.and_eq_true] at ht
  exact ⟨h1 ops H eff early hl ht.1 a Ka hag he hf hK, h2 ops H eff early hl ht.2 a Ka hag he hf hK⟩
theorem OT.all_os {f : Nat → Bool} : ∀ {t : OT}, t.all f = true → (∀ k ∈ t.os, f k = true) ∧ t.rest.all f = true
  | .done, h => ⟨fun k hk => by simp [OT.os] at hk, h⟩
  | .fork t1 t2, h => ⟨fun k hk => by simp [OT.os] at hk, h⟩
  | .seg k t, h => by
    unfold OT.all at h
    rw [Bool.and_eq_true] at h
    obtain ⟨h1, h2⟩ := OT.all_os h.2
    refine ⟨fun j hj => ?_, h2⟩
    unfold OT.os at hj
    rcases List.mem_cons.1 hj with rfl | hj
    · exact h.1
    · exact h1 j hj
theorem MT.seg {N m : Nat} {F : Hp} {n : Nat} {l : List Ins} {t : OT} {e : Env} {Hc : Hp} {K : Env → Hp → Prop} (h : MS P N m F n (pick t.os l) e Hc fun e' Hc' => MT P N m F n l t.rest e' Hc' K) : MT P N m F n l t e Hc K := by
  intro ops H eff early hl ht a Ka hag he hf hK
  obtain ⟨h1, h2⟩ := OT.all_os ht
  have h1' : ∀ k ∈ t.os, k < ops.size ∧ eff k = true := fun k hk => by simpa using h1 k hk
  refine wpE_of_ef t a Hc h1' ?_
  exact h ops (pick t.os ops.toList) (pick_mapM hl t.os fun k hk => by simpa using (h1' k hk).1) a _ hag he hf fun e' a' Hc' hk hag' he' => hk ops H eff early hl h2 a' Ka hag' he' hf hK
end
end Go.V
