/- Regions: in the order of the text; in an open order where all is quiet; quiet first and then in order. -/
import Derived.Test.YtgnphaopeplfbaaGreatDoorJac
import Derived.StillTail
set_option linter.unusedSectionVars false
set_option linter.unusedVariables false
set_option linter.unusedSimpArgs false
namespace Go.V
variable [BW]
set_option linter.unusedSimpArgs false
set_option linter.unusedVariables false

section
variable {P : Program} {ops : Array Oper} {md : Region.Mode} {C : World → Prop}

/-! ### A quiet head before a tail in order -/

def anyHead (P : Program) (md : Region.Mode) (ops : Array Oper) (C : World → Prop) (n : Nat) (L : Array Bool → Act → Prop) : Nat → Array Bool → Act → Prop
  | 0, listed, a => L listed a
  | f + 1, listed, a =>
    Region.ready md ops listed ≠ [] ∧ ∀ i ∈ Region.ready md ops listed, i < n ∧ qOp P ops C i (anyHead P md ops C n L f (listed.setIfInBounds i true)) a

theorem any_of_anyHead {n g : Nat} {L : Array Bool → Act → Prop} {Q' : Exit → Act → World → Prop} (hL : ∀ listed a w, C w → L listed a → wpAny P md ops Q' g listed a w) :
    ∀ (f : Nat) (listed : Array Bool) (a : Act) (w : World), C w → anyHead P md ops C n L f listed a → wpAny P md ops Q' (f + g) listed a w
  | 0, listed, a, w, hw, h => by rw [Nat.zero_add]; exact hL _ _ _ hw h
  | f + 1, listed, a, w, hw, h => by
    rw [show f + 1 + g = (f + g) + 1 by omega]
    exact ⟨fun h0 => absurd h0 h.1, fun i hi => wpOp_of_qOp hw (fun a' w' hw' h' => any_of_anyHead hL f _ a' w' hw' h') (h.2 i hi).2⟩

theorem anyHead_first {n i : Nat} {oi : Oper} {v : Value} {L : Array Bool → Act → Prop} (hi : ops[i]? = some oi) (hsel : ∀ (j : Nat) (o : Oper) cs b, ops[j]? = some o → o.op ≠ .select cs b)
    (hs : Region.sinkB md ops n = true) (hc : Region.chainB md ops n = true) (hn : n < ops.size) (hin : i < n)
    (hdone : ∀ listed a, L listed a → ∀ j ∈ Region.ready md ops listed, n ≤ j) :
    ∀ (f : Nat) (listed : Array Bool) (a : Act), HeadInv md ops n listed →
      (∀ j oj, ops[j]? = some oj → j ≠ i → listed.getD j true = false → (∀ e ∈ oj.after, Region.binds md e = true → e.on ≠ i) → oi.apart ops oj = true) →
      i ∈ Region.ready md ops listed → YieldsIn P ops C oi v a →
      anyHead P md ops C n L f (listed.setIfInBounds i true) (a.put oi.dst v) → anyHead P md ops C n L (f + 1) listed a := by
  intro f
  induction f with
  | zero =>
    intro listed a inv _ hr hy hh
    have hun := (mem_ready.1 hr).1
    refine ⟨fun h => (by rw [h] at hr; cases hr), fun j hj => ?_⟩
    have hjn : j < n := by
      rcases Nat.lt_or_ge j n with h | h
      · exact h
      · exact absurd hj (tail_waits hs hc hn inv _ i rfl hin hun j h)
    refine ⟨hjn, ?_⟩
    by_cases hji : j = i
    · subst hji; exact hy.qOp hi hh
    · have := hdone _ _ hh j (ready_mono hj hji)
      omega
  | succ f ih =>
    intro listed a inv hfree hr hy hh
    have hun := (mem_ready.1 hr).1
    refine ⟨fun h => (by rw [h] at hr; cases hr), fun j hj => ?_⟩
    have hjn : j < n := by
      rcases Nat.lt_or_ge j n with h | h
      · exact h
      · exact absurd hj (tail_waits hs hc hn inv _ i rfl hin hun j h)
    refine ⟨hjn, ?_⟩
    by_cases hji : j = i
    · subst hji; exact hy.qOp hi hh
    · have h1 := (hh.2 j (ready_mono hj hji)).2
      obtain ⟨hjun, oj, hoj, hall⟩ := mem_ready.1 hj
      have hnot : ∀ e ∈ oj.after, Region.binds md e = true → e.on ≠ i := fun e he hb heq => by
        have h1 := hall e he hb
        rw [heq, getD_both hun] at h1
        cases h1
      have h2 := qOp_put hoj (hfree j oj hoj hji hjun hnot) (fun cs b => hsel i oi cs b hi) (fun cs b => hsel j oj cs b hoj) hy h1
      have hfree' : ∀ k ok, ops[k]? = some ok → k ≠ i → (listed.setIfInBounds j true).getD k true = false →
          (∀ e ∈ ok.after, Region.binds md e = true → e.on ≠ i) → oi.apart ops ok = true := fun k ok hk hki hun hno => by
        refine hfree k ok hk hki ?_ hno
        by_cases hjk : j = k
        · subst hjk; exact hjun
        · rw [getD_set_ne true hjk] at hun; exact hun
      refine qOp_mono (fun a' h3 => ih (listed.setIfInBounds j true) a' (inv.set hj hjn) hfree' (ready_mono hr (Ne.symm hji)) h3.1 ?_) h2
      rw [Array.setIfInBounds_comm _ _ hji]
      exact h3.2

theorem anyHead_lex {n g : Nat} {Lq : Act → Prop} (hsel : Region.noSelect ops = true) (hs : Region.sinkB md ops n = true) (hc : Region.chainB md ops n = true) (hn : n < ops.size) :
    ∀ (l : List Oper) (k : Nat) (listed : Array Bool) (a : Act), (∀ j, j < l.length → l[j]? = ops[k + j]?) → k + l.length = n → HeadInv md ops n listed →
    Region.lexHead md ops g l.length k listed = true → wpQuiet P ops C Lq l a →
    anyHead P md ops C n (fun listed' a' => Region.seqB md ops g n listed' = true ∧ Lq a') l.length listed a
  | [], k, listed, a, _, hk, _, hB, h => by
    have : k = n := by simpa using hk
    subst this
    exact ⟨by simpa [Region.lexHead] using hB, h⟩
  | o :: l, k, listed, a, hl, hk, inv, hB, h => by
    have h0 : ops[k]? = some o := by simpa using (hl 0 (by simp)).symm
    simp only [List.length_cons, Region.lexHead, Bool.and_eq_true] at hB
    obtain ⟨⟨hr, hf⟩, hB'⟩ := hB
    have hkn : k < n := by simp only [List.length_cons] at hk; omega
    have hr' : k ∈ Region.ready md ops listed := by simpa using hr
    have hst : qOp P ops C k (wpQuiet P ops C Lq l) a := by unfold qOp; simp only [h0]; exact h
    obtain ⟨v, hy, hK⟩ := yieldsIn_of_qOp h0 hst
    exact anyHead_first h0 (Region.noSelect_spec hsel) hs hc hn hkn (fun listed' a' hL => seqB_ready hL.1) l.length listed a inv (Region.free_spec h0 hf) hr' hy
      (anyHead_lex hsel hs hc hn l (k + 1) _ _ (fun j hj => by have := hl (j + 1) (by simp; omega); simpa [Nat.add_assoc, Nat.add_comm 1 j] using this) (by simp only [List.length_cons] at hk; omega) (inv.set hr' hkn) hB' hK)

theorem wp_region_quietTail {id : Nat} {Q : Exit → Act → World → Prop} {a : Act} {w : World} (n : Nat) (hm : P.follows .mixedOrders = true) (hB : Region.lexTailB .any ops n = true)
    (hC : C { w with drawn := w.drawn + 1 })
    (h : wpQuiet P ops C (fun a' => ∀ w', C w' → wpList P ops Q (ops.toList.drop n) a' w') (ops.toList.take n) a) : (Code.region id ops true).wp P Q a w := by
  simp only [Region.lexTailB, Bool.and_eq_true, decide_eq_true_eq] at hB
  obtain ⟨⟨⟨⟨hsel, hn⟩, hs⟩, hc⟩, hlex⟩ := hB
  have htl : (ops.toList.take n).length = n := by simp; omega
  have hdl : (ops.toList.drop n).length = ops.size - n := by simp
  have inv0 : HeadInv .any ops n (Array.replicate ops.size false) :=
    ⟨by simp, fun j oj _ hl => (by rw [getD_replicate_false] at hl; cases hl), fun t _ ht => getD_in (by simpa using ht) (getD_replicate_false _ _)⟩
  have hh := anyHead_lex (md := .any) (C := C) (g := ops.size - n) hsel hs hc hn (ops.toList.take n) 0 _ a (fun j hj => by
    have hj' : j < n := by rw [htl] at hj; exact hj
    simp [List.getElem?_take, hj']) (by simpa using htl) inv0 (by rw [htl]; exact hlex) h
  refine wp_region_any hm ?_
  have := any_of_anyHead (Q' := Q) (g := ops.size - n) (fun listed a' w' hw' hL => by
    have := wpAny_of_seq (md := .any) (Q' := Q) (ops.toList.drop n) n listed a' w' (fun j => by simp [List.getElem?_drop]) (by rw [hdl]; exact hL.1) (hL.2 w' hw')
    rwa [hdl] at this) _ _ _ _ hC hh
  rw [htl, show n + (ops.size - n) = ops.size by omega] at this
  exact this
end

/-! ### Lists of operations -/

structure Ins where
  d : Option Nat
  g : Option (Nat × Bool)
  i : I
  deriving Inhabited

def trG (ops : Array Oper) : Option (Nat × Bool) → Option (Option (Nat × Bool))
  | none => some none
  | some (j, b) => ((ops[j]?).bind (·.dst)).map fun t => some (t, b)

def trD (N : Nat) (g : Option (Nat × Bool)) (i : I) : Option Tmp → Option Ins
  | none => some ⟨none, g, i⟩
  | some d => if d < N then some ⟨some d, g, i⟩ else none

def trOp (P : Program) (N : Nat) (ops : Array Oper) (o : Oper) : Option Ins :=
  (trI P o.type o.op).bind fun i => (trG ops o.guard).bind fun g => trD N g i o.dst

/-- The guard of an operation is as it was translated. -/
def asG (ops : Array Oper) (gu : Option (Nat × Bool)) : Option (Nat × Bool) → Prop
  | none => gu = none
  | some (t, b) => ∃ j, gu = some (j, b) ∧ (ops[j]?).bind (·.dst) = some t

/-- The guard lets the operation run. -/
def gOk (e : Env) : Option (Nat × Bool) → Prop
  | none => True
  | some (t, b) => e.get t = some (.s (.bool b))

def isB (v : AV) (b : Bool) : Bool :=
  match v with
  | .s (.bool x) => x == b
  | _ => false

theorem trOp_spec {P : Program} {N : Nat} {ops : Array Oper} {o : Oper} {x : Ins} (h : trOp P N ops o = some x) :
    trI P o.type o.op = some x.i ∧ o.dst = x.d ∧ (∀ t, x.d = some t → t < N) ∧ asG ops o.guard x.g := by
  simp only [trOp, Option.bind_eq_some_iff] at h
  obtain ⟨i, hi, g, hg, h⟩ := h
  have hgg : asG ops o.guard g := by
    generalize o.guard = gu at hg
    cases gu with
    | none => cases hg; rfl
    | some y =>
      obtain ⟨j, b⟩ := y
      simp only [trG, Option.map_eq_some_iff] at hg
      obtain ⟨t, ht, rfl⟩ := hg
      exact ⟨j, rfl, ht⟩
  generalize hd : o.dst = ds at h
  cases ds with
  | none =>
    cases h
    exact ⟨hi, rfl, (fun t ht => by cases ht), hgg⟩
  | some d =>
    simp only [trD] at h
    split at h
    · rename_i hlt
      cases h
      exact ⟨hi, rfl, (fun t ht => by cases ht; exact hlt), hgg⟩
    · cases h

section
variable {P : Program}

theorem wanted_none {o : Oper} {y : Nat → Option Bool} (h : o.guard = none) : Region.wanted o y = true := by simp [Region.wanted, h]

theorem wanted_some {N : Nat} {e : Env} {a : Act} (hag : Ag N e a) {ops : Array Oper} {o : Oper} {j t : Nat} {b : Bool} (h : o.guard = some (j, b)) (ht : (ops[j]?).bind (·.dst) = some t) {v : AV}
    (hv : e.get t = some v) : Region.wanted o (yielded ops a.tmps) = isB v b := by
  have h1 := hag.get t v hv
  simp only [Region.wanted, h, yielded, ht, Option.bind_some, h1, isB]
  cases v with
  | s x => cases x <;> simp [AV.conc, SV.conc]
  | arr m c => simp [AV.conc]
  | tup l => simp [AV.conc]

/-- A list of operations, in the order of the text. -/
def RS (P : Program) (N m : Nat) (l : List Ins) (e : Env) (H : Hp) (n : Nat) (K : Env → Hp → Nat → Prop) : Prop :=
  ∀ (ops : Array Oper) (l' : List Oper), l'.mapM (trOp P N ops) = some l → ∀ (w0 w : World) (a : Act) (Q : Exit → Act → World → Prop), w0.heap.size ≤ m → Mem w0 H n w → Ag N e a →
    (∀ e' H' n' a' w', K e' H' n' → n ≤ n' → Ag N e' a' → Mem w0 H' n' w' → Q .normal a' w') → wpList P ops Q l' a w

theorem RS.nil {N m : Nat} {e : Env} {H : Hp} {n : Nat} {K : Env → Hp → Nat → Prop} (h : K e H n) : RS P N m [] e H n K := by
  intro ops l' hl w0 w a Q hm hw hag hK
  have : l' = [] := by
    cases l' with
    | nil => rfl
    | cons o l' => simp [List.mapM_cons, bind, Option.bind_eq_some_iff] at hl
  subst this
  exact hK _ _ _ _ _ h (Nat.le_refl _) hag hw

theorem mapM_cons_inv {α β : Type} {f : α → Option β} {x : β} {l : List β} {l' : List α} (h : l'.mapM f = some (x :: l)) : ∃ o r, l' = o :: r ∧ f o = some x ∧ r.mapM f = some l := by
  cases l' with
  | nil => simp at h
  | cons o r =>
    simp only [List.mapM_cons, bind, Option.bind_eq_some_iff, pure, Option.some.injEq] at h
    obtain ⟨y, hy, l2, hl2, h⟩ := h
    cases h
    exact ⟨o, r, rfl, hy, hl2⟩

theorem RS.step {N m : Nat} {d : Option Nat} {g : Option (Nat × Bool)} {i : I} {l : List Ins} {e : Env} {H : Hp} {n : Nat} {K : Env → Hp → Nat → Prop}
    (hg : gOk e g)
    (h : IS P N m d i e H n fun e' H' n' => RS P N m l e' H' n' K) : RS P N m (⟨d, g, i⟩ :: l) e H n K := by
  intro ops l' hl w0 w a Q hm hw hag hK
  obtain ⟨o, r, rfl, ho, hr⟩ := mapM_cons_inv hl
  obtain ⟨h1, h2, h3, h4⟩ := trOp_spec ho
  dsimp only at h1 h2 h3 h4
  have hw' : Region.wanted o (yielded ops a.tmps) = true := by
    cases g with
    | none => exact wanted_none h4
    | some tb =>
      obtain ⟨t, b⟩ := tb
      obtain ⟨j, hj, ht⟩ := h4
      rw [wanted_some hag hj ht hg]
      simp [isB]
  unfold wpList
  rw [if_pos hw']
  exact .inl (h o h1 h2 h3 w0 w a Q _ hm hw hag fun e' H' n' a' w' hk hn hag' hw' => hk ops r hr w0 w' a' Q hm hw' hag' fun e2 H2 n2 a2 w2 hk2 hn2 => hK e2 H2 n2 a2 w2 hk2 (by omega))

theorem RS.skip {N m : Nat} {d : Option Nat} {t : Nat} {b : Bool} {v : AV} {i : I} {l : List Ins} {e : Env} {H : Hp} {n : Nat} {K : Env → Hp → Nat → Prop}
    (hg : e.get t = some v) (hv : isB v b = false)
    (h : RS P N m l (putD d .undef e) H n K) : RS P N m (⟨d, some (t, b), i⟩ :: l) e H n K := by
  intro ops l' hl w0 w a Q hm hw hag hK
  obtain ⟨o, r, rfl, ho, hr⟩ := mapM_cons_inv hl
  obtain ⟨h1, h2, h3, h4⟩ := trOp_spec ho
  dsimp only at h1 h2 h3 h4
  obtain ⟨j, hj, ht⟩ := h4
  have hw' : Region.wanted o (yielded ops a.tmps) = false := by rw [wanted_some hag hj ht hg]; exact hv
  unfold wpList
  rw [if_neg (by simp [hw'])]
  exact h ops r hr w0 w _ Q hm hw (by rw [h2]; exact hag.putD h3 .undef) hK

/-- The value of an operation is one in every world of this memory, whatever stands beside it. -/
def qAt (P : Program) (H : Hp) (n : Nat) (o : Oper) (a : Act) (v : Value) : Prop :=
  ∀ w0 w, (∃ n', n ≤ n' ∧ Mem w0 H n' w) → o.quietAt P a (fun w => ∃ n', n ≤ n' ∧ Mem w0 H n' w) w v

def wpQ (P : Program) (ops : Array Oper) (H : Hp) (n : Nat) (Kq : Act → Prop) : List Oper → Act → Prop
  | [], a => Kq a
  | o :: r, a => if Region.wanted o (yielded ops a.tmps) then ∃ v, qAt P H n o a v ∧ wpQ P ops H n Kq r (a.put o.dst v) else wpQ P ops H n Kq r (a.put o.dst undef)

theorem wpQ.quiet {ops : Array Oper} {H : Hp} {n : Nat} {Kq : Act → Prop} (w0 : World) : ∀ {l : List Oper} {a : Act}, wpQ P ops H n Kq l a → wpQuiet P ops (fun w => ∃ n', n ≤ n' ∧ Mem w0 H n' w) Kq l a
  | [], a, h => h
  | o :: r, a, h => by
    unfold wpQ at h
    unfold wpQuiet
    split at h
    · rename_i hw
      rw [if_pos hw]
      obtain ⟨v, h1, h2⟩ := h
      exact ⟨v, fun w hw => h1 w0 w hw, wpQ.quiet w0 h2⟩
    · rename_i hw
      rw [if_neg hw]
      exact wpQ.quiet w0 h

/-- A list of quiet operations: the value of each is one in every world of this memory. -/
def QS (P : Program) (N : Nat) (l : List Ins) (e : Env) (H : Hp) (n : Nat) (K : Env → Prop) : Prop :=
  ∀ (ops : Array Oper) (l' : List Oper), l'.mapM (trOp P N ops) = some l → ∀ (a : Act) (Kq : Act → Prop), Ag N e a →
    (∀ e' a', K e' → Ag N e' a' → Kq a') → wpQ P ops H n Kq l' a

theorem QS.nil {N : Nat} {e : Env} {H : Hp} {n : Nat} {K : Env → Prop} (h : K e) : QS P N [] e H n K := by
  intro ops l' hl a Kq hag hK
  have : l' = [] := by
    cases l' with
    | nil => rfl
    | cons o l' => simp [List.mapM_cons, bind, Option.bind_eq_some_iff] at hl
  subst this
  exact hK _ _ h hag

theorem QS.skip {N : Nat} {d : Option Nat} {t : Nat} {b : Bool} {v : AV} {i : I} {l : List Ins} {e : Env} {H : Hp} {n : Nat} {K : Env → Prop}
    (hg : e.get t = some v) (hv : isB v b = false)
    (h : QS P N l (putD d .undef e) H n K) : QS P N (⟨d, some (t, b), i⟩ :: l) e H n K := by
  intro ops l' hl a Kq hag hK
  obtain ⟨o, r, rfl, ho, hr⟩ := mapM_cons_inv hl
  obtain ⟨h1, h2, h3, h4⟩ := trOp_spec ho
  dsimp only at h1 h2 h3 h4
  obtain ⟨j, hj, ht⟩ := h4
  have hw' : Region.wanted o (yielded ops a.tmps) = false := by rw [wanted_some hag hj ht hg]; exact hv
  unfold wpQ
  rw [if_neg (by simp [hw'])]
  exact h ops r hr _ Kq (by rw [h2]; exact hag.putD h3 .undef) hK

theorem QS.of_at {N : Nat} {d : Option Nat} {g : Option (Nat × Bool)} {i : I} {l : List Ins} {e : Env} {H : Hp} {n : Nat} {K : Env → Prop} (v : AV)
    (hg : gOk e g)
    (hq : ∀ (o : Oper), trI P o.type o.op = some i → ∀ (w0 : World) (a : Act), Ag N e a → ∀ w, (∃ n', n ≤ n' ∧ Mem w0 H n' w) → o.quietAt P a (fun w => ∃ n', n ≤ n' ∧ Mem w0 H n' w) w v.conc)
    (h : QS P N l (putD d v e) H n K) : QS P N (⟨d, g, i⟩ :: l) e H n K := by
  intro ops l' hl a Kq hag hK
  obtain ⟨o, r, rfl, ho, hr⟩ := mapM_cons_inv hl
  obtain ⟨h1, h2, h3, h4⟩ := trOp_spec ho
  dsimp only at h1 h2 h3 h4
  have hw' : Region.wanted o (yielded ops a.tmps) = true := by
    cases g with
    | none => exact wanted_none h4
    | some tb =>
      obtain ⟨t, b⟩ := tb
      obtain ⟨j, hj, ht⟩ := h4
      rw [wanted_some hag hj ht hg]
      simp [isB]
  unfold wpQ
  rw [if_pos hw']
  exact ⟨v.conc, fun w0 w hw => hq o h1 w0 a hag w hw, h ops r hr _ Kq (by rw [h2]; exact hag.putD h3 v) hK⟩

theorem QS.pure {N : Nat} {d : Option Nat} {g : Option (Nat × Bool)} {i : I} {l : List Ins} {e : Env} {H : Hp} {n : Nat} {K : Env → Prop}
    (hg : gOk e g)
    (h : PV i e H fun v => QS P N l (putD d v e) H n K) : QS P N (⟨d, g, i⟩ :: l) e H n K := by
  intro ops l' hl a Kq hag hK
  obtain ⟨o, r, hlo, ho, hr⟩ := mapM_cons_inv hl
  obtain ⟨v, hv, hrun⟩ := pv_sound hag (trOp_spec ho).1 h
  subst hlo
  obtain ⟨h1, h2, h3, h4⟩ := trOp_spec ho
  dsimp only at h1 h2 h3 h4
  have hw' : Region.wanted o (yielded ops a.tmps) = true := by
    cases g with
    | none => exact wanted_none h4
    | some tb =>
      obtain ⟨t, b⟩ := tb
      obtain ⟨j, hj, ht⟩ := h4
      rw [wanted_some hag hj ht hg]
      simp [isB]
  unfold wpQ
  rw [if_pos hw']
  refine ⟨v.conc, fun w0 w ⟨n', hn, hw⟩ => ?_, hv ops r hr _ Kq (by rw [h2]; exact hag.putD h3 v) hK⟩
  unfold Oper.quietAt
  rw [hrun _ _ _ hw]
  exact ⟨rfl, rfl⟩

theorem QS.call {N : Nat} {d : Option Nat} {g : Option (Nat × Bool)} {f : FuncId} {args : List X} {l : List Ins} {e : Env} {H : Hp} {n : Nat} {K : Env → Prop} {vs : List AV} (v : AV)
    (hg : gOk e g)
    (hv : evs e args = some vs) (hf : ∀ n', n ≤ n' → FnS P f vs H n' fun r H' _ => r = v ∧ H' = H)
    (h : QS P N l (putD d v e) H n K) : QS P N (⟨d, g, .call f args⟩ :: l) e H n K := by
  refine QS.of_at v hg (fun o ht w0 a hag w ⟨n', hn, hw⟩ => ?_) h
  obtain ⟨dst, op, ty, pos, after, guard⟩ := o
  dsimp only at ht
  obtain ⟨c, rfl, hcal, hargs⟩ := inv_call ht
  have e1 := evs_spec hag _ _ _ hargs hv
  have e1' : c.args.map a.eval = (AV.concs vs).toArray := Array.toList_inj.1 (by rw [Array.toList_map]; exact e1)
  have hr : (execOp a.eval (Oper.mk dst (.call c) ty pos after guard)).run P w = .ok (.enter f (AV.concs vs).toArray) w := by
    simp [execOp, resolve, hcal, Act.eval, Deferred.ofValue, invoke, run_callFunc (hf n' hn).1, e1']
  unfold Oper.quietAt
  rw [hr]
  refine ⟨rfl, ((hf n' hn).2 w0 w hw).mono ?_⟩
  rintro e' w' ⟨r, H', n2, rfl, hn2, hm, rfl, rfl⟩
  exact ⟨rfl, n2, by omega, hm⟩

theorem QS.callv {N : Nat} {d : Option Nat} {g : Option (Nat × Bool)} {f : FuncId} {pre post : List SV} {x : X} {args : List X} {l : List Ins} {e : Env} {H : Hp} {n : Nat} {K : Env → Prop} {vs : List AV} (v : AV)
    (hg : gOk e g)
    (hx : x.ev e = some (.s (.fn f pre post))) (hv : evs e args = some vs) (hf : ∀ n', n ≤ n' → FnS P f (pre.map .s ++ vs ++ post.map .s) H n' fun r H' _ => r = v ∧ H' = H)
    (h : QS P N l (putD d v e) H n K) : QS P N (⟨d, g, .callv x args⟩ :: l) e H n K := by
  refine QS.of_at v hg (fun o ht w0 a hag w ⟨n', hn, hw⟩ => ?_) h
  obtain ⟨dst, op, ty, pos, after, guard⟩ := o
  dsimp only at ht
  obtain ⟨c, x0, rfl, hcal, hx0, hargs⟩ := inv_callv ht
  have e1 := evs_spec hag _ _ _ hargs hv
  have e2 := trX_eval hag hx0 hx
  have e1' : c.args.map a.eval = (AV.concs vs).toArray := Array.toList_inj.1 (by rw [Array.toList_map]; exact e1)
  have hr : (execOp a.eval (Oper.mk dst (.call c) ty pos after guard)).run P w = .ok (.enter f (AV.concs (pre.map .s ++ vs ++ post.map .s)).toArray) w := by
    simp only [execOp, resolve, hcal, e2, AV.conc, SV.conc, Deferred.ofValue, Sem.run_bind, Sem.run_pure, Result.andThen_ok, invoke, e1']
    rw [run_callFunc (hf n' hn).1]
    simp [concs_append, concs_s]
  unfold Oper.quietAt
  rw [hr]
  refine ⟨rfl, ((hf n' hn).2 w0 w hw).mono ?_⟩
  rintro e' w' ⟨r, H', n2, rfl, hn2, hm, rfl, rfl⟩
  exact ⟨rfl, n2, by omega, hm⟩

end
end Go.V
