/- The pure instructions yield what is said of them, in every world with this memory. -/
import Derived.Test.YtgnphaopeplfbaaGreatDoorJaa
set_option linter.unusedSectionVars false
set_option linter.unusedVariables false
set_option linter.unusedSimpArgs false
namespace Go.V
variable [BW]
set_option linter.unusedSimpArgs false
set_option linter.unusedVariables false

section
variable {P : Program}

theorem run_binI {op : BinOp} {t : TypeId} {k : IntKind} {a b : Int} {K : SV → Prop} (h : binI op k a b K) :
    ∃ v : SV, K v ∧ ∀ w, (binOp op t (.int k a) (.int k b)).run P w = .ok v.conc w := by
  cases op <;> simp only [binI] at h
  all_goals first
    | exact h.elim
    | exact ⟨_, h, fun w => by simp [binOp, Op.intArith, Op.intBits, Op.intCmp, SV.conc]⟩
    | exact ⟨_, h.2, fun w => by simp [binOp, Op.intDiv, h.1, SV.conc]⟩

theorem run_eqGuard_int {op : BinOp} {t : TypeId} {x y : Operand} {k : IntKind} {n : Int} {v : Value} {w : World} : (eqGuard op t x y (.int k n) v).run P w = .ok () w := by
  cases op <;> rfl
theorem run_eqGuard_str {op : BinOp} {t : TypeId} {x y : Operand} {s : ByteArray} {v : Value} {w : World} : (eqGuard op t x y (.string s) v).run P w = .ok () w := by
  cases op <;> rfl

theorem run_binS {op : BinOp} {t : TypeId} {xo yo : Operand} {x y : SV} {K : SV → Prop} (h : binS op x y K) :
    ∃ v : SV, K v ∧ ∀ w, ((do eqGuard op t xo yo x.conc y.conc; binOp op t x.conc y.conc) : Sem Value).run P w = .ok v.conc w := by
  unfold binS at h
  split at h
  · rename_i k a k' b
    split at h
    · exact ⟨_, h.2, fun w => by simp [SV.conc, run_eqGuard_int, binOp, Op.shift, Int.not_lt.2 h.1]⟩
    · exact ⟨_, h.2, fun w => by simp [SV.conc, run_eqGuard_int, binOp, Op.shift, Int.not_lt.2 h.1]⟩
    · obtain ⟨rfl, h⟩ := h
      obtain ⟨v, hv, hr⟩ := run_binI (P := P) (t := t) h
      exact ⟨v, hv, fun w => by simp [SV.conc, run_eqGuard_int, hr]⟩
  · rename_i a b
    split at h
    · obtain ⟨h1, h2⟩ := h
      refine ⟨_, h2, fun w => ?_⟩
      have h3 : ¬ ((a.size : Int) + (b.size : Int) > 9223372036854775807) := by omega
      simp only [SV.conc, Sem.run_bind, run_eqGuard_str, Result.andThen_ok]
      simp only [binOp, Op.stringOp, IntKind.max_i64, Int.natCast_add]
      rw [if_neg h3]
      rfl
    all_goals first
      | exact h.elim
      | (refine ⟨_, h, fun w => ?_⟩; simp [SV.conc, run_eqGuard_str, binOp, Op.stringOp])
  · exact h.elim

/-! ### Equality of aggregates of integers -/

theorem part_int {e : TypeId} {k : IntKind} {cs : Array Value} {j : Nat} {v : Value} (hu : P.underlying e = some (.int k)) (hv : cs[j]? = some v) (w : World) :
    (part e cs j).run P w = .ok v w := by
  simp [part, isAgg, run_underlying hu, hv]

theorem part_arr {e e' : TypeId} {l : Nat} {i : TypeInfo} {cs : Array Value} {j : Nat} (hu : P.underlying e = some (.array l e')) (hi : P.info? e = some i) (w : World) :
    (part e cs j).run P w = .ok (.agg (cs.extract j (j + i.size))) w := by
  simp [part, isAgg, run_underlying hu, sizeOf, typeInfo, hi]

def ceqAt (n : Nat) (c d : Nat → SV) (o : Nat) : Bool := ceq n (fun j => c (o + j)) (fun j => d (o + j))

theorem ceq_split (len m : Nat) (c d : Nat → SV) : ceq (len * m) c d = (List.range len).all fun i => ceqAt m c d (i * m) := by
  rw [Bool.eq_iff_iff]
  simp only [ceqAt, ceq, List.all_eq_true, List.mem_range]
  constructor
  · intro h i hi j hj
    apply h
    calc i * m + j < i * m + m := by omega
      _ = (i + 1) * m := by rw [Nat.add_mul, Nat.one_mul]
      _ ≤ len * m := Nat.mul_le_mul_right _ hi
  · intro h x hx
    have hm : 0 < m := by rcases Nat.eq_zero_or_pos m with e | e; · subst e; simp at hx
                          · exact e
    have h1 := h (x / m) (Nat.div_lt_of_lt_mul (by rw [Nat.mul_comm]; exact hx)) (x % m) (Nat.mod_lt _ hm)
    rw [show x / m * m + x % m = x by rw [Nat.mul_comm]; exact Nat.div_add_mod x m] at h1
    exact h1

theorem run_eqLoop (P : Program) (f : Nat → Sem Bool) (g : Nat → Bool) (w : World) : ∀ (l : List Nat), (∀ i ∈ l, (f i).run P w = .ok (g i) w) →
    ((do
      let r ← forIn l ((none, ()) : Option Bool × Unit) fun i r => do
        let x ← f i
        if (!x) = true then pure (ForInStep.done (some false, ())) else pure (ForInStep.yield (none, ()))
      match r.fst with
      | some a => pure a
      | none => pure true) : Sem Bool).run P w = .ok (l.all g) w
  | [], _ => by simp
  | i :: l, h => by
    have ih := run_eqLoop P f g w l (fun j hj => h j (by simp [hj]))
    simp only [List.forIn_cons, Sem.run_bind, h i (by simp), Result.andThen_ok, List.all_cons]
    cases hg : g i with
    | false => simp
    | true =>
      simp only [Bool.not_true, Bool.false_eq_true, if_false, Sem.run_pure, Result.andThen_ok, Bool.true_and]
      simpa using ih

theorem run_equalIn_intTy : ∀ (d : Nat) (t : TypeId) (n : Nat), intTy P d t = some n → ∀ (D : Nat), d ≤ D → ∀ (c c' : Nat → SV), cInt n c c' → ∀ w,
    (P.underlying t).any (fun u => match u with | .array _ _ => true | _ => false) = true → (Op.equalIn (D + 1) t (.agg (arrC n c)) (.agg (arrC n c'))).run P w = .ok (ceq n c c') w := by
  intro d
  induction d with
  | zero => intro t n h; simp [intTy] at h
  | succ d ih =>
    intro t n h D hD c c' hc w ha
    simp only [intTy] at h
    split at h
    · rename_i k i hu hi
      simp [hu] at ha
    · rename_i len e i hu hi
      split at h
      · rename_i m j hm hj
        split at h
        · rename_i hs
          cases h
          obtain ⟨hs1, hs2⟩ := hs
          obtain ⟨D', rfl⟩ : ∃ D', D = D' + 1 := ⟨D - 1, by omega⟩
          have hz : ∀ w, (sizeOf e).run P w = .ok m w := fun w => by simp [sizeOf, typeInfo, hj, hs1]
          rw [Op.equalIn]
          simp only [Sem.run_bind, run_underlying hu, Result.andThen_ok, hz]
          rw [← Sem.run_bind]
          have hl := run_eqLoop P (fun x => do
            let a ← part e (arrC i.size c) (x * m)
            let b ← part e (arrC i.size c') (x * m)
            Op.equalIn (D' + 1) e a b) (fun x => ceqAt m c c' (x * m)) w (List.range len) ?_
          · rw [hs2, ceq_split, ← hs2, ← hl]
            simp only [Std.Legacy.Range.forIn_eq_forIn_range', Std.Legacy.Range.size, Nat.sub_zero, Nat.add_sub_cancel, Nat.div_one, List.range_eq_range', bind_assoc]
            congr 2
            funext r
            rcases r with ⟨_ | _, _⟩ <;> rfl
          · intro x hx
            have hx := List.mem_range.1 hx
            have hb : x * m + m ≤ i.size := by
              rw [hs2]
              calc x * m + m = (x + 1) * m := by rw [Nat.add_mul, Nat.one_mul]
                _ ≤ len * m := Nat.mul_le_mul_right _ hx
            have hc' : cInt m (fun j => c (x * m + j)) (fun j => c' (x * m + j)) := fun q hq => hc _ (by omega)
            -- by the element's type
            cases d with
            | zero => simp [intTy] at hm
            | succ d =>
              have hm0 := hm
              simp only [intTy] at hm0
              split at hm0
              · rename_i k i' hu' hi'
                split at hm0
                · cases hm0
                  obtain ⟨kk, p, q, hp, hq⟩ := hc (x * 1) (by omega)
                  have e1 := part_int (P := P) hu' (arrC_get i.size c (x * 1) (by omega)) w
                  have e2 := part_int (P := P) hu' (arrC_get i.size c' (x * 1) (by omega)) w
                  simp only [Sem.run_bind, e1, e2, Result.andThen_ok, hp, hq, SV.conc]
                  rw [run_equalIn_int w _ _ _ _ _ _ hu']
                  simp only [ceqAt, ceq]
                  simp at hp hq
                  simp [hp, hq]
                · cases hm0
              · rename_i l' e' i' hu' hi'
                split at hm0
                · split at hm0
                  · rename_i hs'
                    cases hm0
                    have hj' : j = i' := Option.some.inj (hj.symm.trans hi')
                    subst hj'
                    have e1 := part_arr (P := P) (cs := arrC i.size c) (j := x * j.size) hu' hi' w
                    have e2 := part_arr (P := P) (cs := arrC i.size c') (j := x * j.size) hu' hi' w
                    simp only [Sem.run_bind, e1, e2, Result.andThen_ok]
                    rw [arrC_extract _ _ _ _ hb, arrC_extract _ _ _ _ hb]
                    exact ih e j.size hm D' (by omega) _ _ hc' w (by simp [hu'])
                  · cases hm0
                · cases hm0
              · cases hm0
        · cases h
      · cases h
    · cases h

/-! ### Bounds -/
theorem run_bound {v : Value} {k : IntKind} {i : Int} {y : Nat} {code : BoundsCode} (h : 0 ≤ i ∧ i ≤ y) (w : World) : (Instr.sliceBound (.int k i) y code).run P w = .ok i.toNat w := by
  simp [Instr.sliceBound, asIntOf, h]

theorem trO_spec {N : Nat} {e : Env} {a : Act} (hag : Ag N e a) {x : Option Operand} {x' : Option X} (ht : trO x = some x') {dflt most : Nat} {K : Nat → Prop} (h : bndV e x' dflt most K) :
    (x = none ∧ x' = none ∧ K dflt) ∨ (∃ y k i, x = some y ∧ x'.isSome = true ∧ a.eval y = .int k i ∧ (0 ≤ i ∧ i ≤ most) ∧ K i.toNat) := by
  cases x with
  | none =>
    simp only [trO, Option.some.injEq] at ht
    subst ht
    exact .inl ⟨rfl, rfl, h⟩
  | some y =>
    simp only [trO, Option.map_eq_some_iff] at ht
    obtain ⟨z, hz, rfl⟩ := ht
    simp only [bndV] at h
    split at h
    · rename_i k i hv
      exact .inr ⟨y, k, i, rfl, rfl, trX_eval hag hz hv, h.1, h.2⟩
    · exact h.elim

theorem run_bounds {N : Nat} {e : Env} {a : Act} (hag : Ag N e a) {lo hi mx : Option Operand} {lo' hi' mx' : Option X} (h1 : trO lo = some lo') (h2 : trO hi = some hi') (h3 : trO mx = some mx')
    {len cap : Nat} {isSlice : Bool} {K : Nat → Nat → Nat → Prop}
    (h : bndV e mx' cap cap fun m => bndV e hi' len m fun h => (mx'.isSome → hi'.isSome) ∧ bndV e lo' 0 h fun l => K l h m) :
    ∃ l h m, K l h m ∧ ∀ w, (Instr.sliceBounds isSlice len cap (lo.map a.eval) (hi.map a.eval) (mx.map a.eval)).run P w = .ok (l, h, m) w := by
  rcases trO_spec hag h3 h with ⟨rfl, rfl, h⟩ | ⟨xm, km, im, rfl, hs, em, bm, h⟩
  · rcases trO_spec hag h2 h with ⟨rfl, rfl, _, h⟩ | ⟨xh, kh, ih, rfl, _, eh, bh, _, h⟩
    · rcases trO_spec hag h1 h with ⟨rfl, rfl, h⟩ | ⟨xl, kl, il, rfl, _, el, bl, h⟩
      · exact ⟨_, _, _, h, fun w => by simp [Instr.sliceBounds]⟩
      · exact ⟨_, _, _, h, fun w => by simp [Instr.sliceBounds, el, run_bound (v := .nilFunc) bl]⟩
    · rcases trO_spec hag h1 h with ⟨rfl, rfl, h⟩ | ⟨xl, kl, il, rfl, _, el, bl, h⟩
      · exact ⟨_, _, _, h, fun w => by simp [Instr.sliceBounds, eh, run_bound (v := .nilFunc) bh]⟩
      · exact ⟨_, _, _, h, fun w => by simp [Instr.sliceBounds, eh, el, run_bound (v := .nilFunc) bh, run_bound (v := .nilFunc) bl]⟩
  · rcases trO_spec hag h2 h with ⟨rfl, rfl, hb, h⟩ | ⟨xh, kh, ih, rfl, _, eh, bh, _, h⟩
    · simp [hs] at hb
    · rcases trO_spec hag h1 h with ⟨rfl, rfl, h⟩ | ⟨xl, kl, il, rfl, _, el, bl, h⟩
      · exact ⟨_, _, _, h, fun w => by simp [Instr.sliceBounds, eh, em, run_bound (v := .nilFunc) bh, run_bound (v := .nilFunc) bm]⟩
      · exact ⟨_, _, _, h, fun w => by simp [Instr.sliceBounds, eh, em, el, run_bound (v := .nilFunc) bh, run_bound (v := .nilFunc) bl, run_bound (v := .nilFunc) bm]⟩

/-! ### What is built -/
theorem foldl_set (cs : Array Value) (off n : Nat) (c : Nat → SV) : ∀ (l : List Value) (s : Nat) (d : Nat → SV), l = (List.range l.length).map (fun j => (d (s + j)).conc) →
    ∀ (c : Nat → SV), ((l.zipIdx s).foldl (fun cs (x : Value × Nat) => cs.setIfInBounds (off + x.2) x.1) (arrC n c)) = arrC n (splice c (off + s) l.length (fun j => d (s + j)))
  | [], s, d, _, c => by
    simp only [List.zipIdx_nil, List.foldl_nil, List.length_nil]
    apply arrC_congr
    intro i hi
    unfold splice
    rw [if_neg (by omega)]
  | v :: l, s, d, h, c => by
    rw [List.length_cons, List.range_succ_eq_map] at h
    simp only [List.map_cons, List.map_map, List.cons.injEq] at h
    obtain ⟨hv, hl⟩ := h
    have h0 : (arrC n c).setIfInBounds (off + s) v = arrC n (put1 c (off + s) (d s)) := by
      apply arrC_ext
      · simp
      · intro i hi
        rw [Array.getElem?_setIfInBounds]
        unfold put1
        by_cases e : off + s = i
        · subst e
          simp [hi, hv]
        · rw [if_neg e, if_neg (Ne.symm e), arrC_get _ _ _ hi]
    simp only [List.zipIdx_cons, List.foldl_cons, h0]
    rw [foldl_set cs off n c l (s + 1) d (by
      rw [hl]
      simp only [List.length_map, List.length_range]
      apply List.map_congr_left
      intro j _
      simp only [Function.comp, Nat.succ_eq_add_one]
      rw [show s + (j + 1) = s + 1 + j by omega])]
    apply arrC_congr
    intro i hi
    unfold splice put1
    simp only [List.length_cons]
    by_cases e1 : i = off + s
    · subst e1
      rw [if_neg (by omega), if_pos rfl, if_pos (by omega)]
      simp
    · by_cases e2 : off + (s + 1) ≤ i ∧ i < off + (s + 1) + l.length
      · have e3 : off + s ≤ i ∧ i < off + s + (l.length + 1) := by omega
        rw [if_pos e2, if_pos e3]
        show d _ = d _
        congr 1; omega
      · have e3 : ¬ (off + s ≤ i ∧ i < off + s + (l.length + 1)) := by omega
        rw [if_neg e2, if_neg e1, if_neg e3]

theorem foldl_arr (off n m : Nat) (c d : Nat → SV) :
    (arrC m d).zipIdx.foldl (fun cs (x : Value × Nat) => match x with | (v, j) => cs.setIfInBounds (off + j) v) (arrC n c) = arrC n (splice c off m d) := by
  have := foldl_set #[] off n c (arrC m d).toList 0 d (by rw [arrC_toList]; simp) c
  simp only [Array.length_toList, arrC_size, Nat.add_zero, Nat.zero_add] at this
  rw [← Array.foldl_toList, Array.toList_zipIdx]
  exact this

theorem splice_one (c : Nat → SV) (o : Nat) (v : SV) (d : Nat → SV) (h : d 0 = v) : splice c o 1 d = put1 c o v := by
  funext i
  unfold splice put1
  by_cases e : i = o
  · subst e; rw [if_pos (by omega), if_pos rfl]; simp [h]
  · rw [if_neg (by omega), if_neg e]

theorem fill_placeAll {N : Nat} {e : Env} {a : Act} (hag : Ag N e a) (place : Nat → Option (Nat × Nat)) (n : Nat) :
    ∀ (l : List (Nat × Operand)) (l' : List (Nat × Nat × X)) (c c' : Nat → SV), trParts place n l = some l' → placeAll e l' c = some c' →
      Instr.fill place (arrC n c) (l.map fun x => (x.1, a.eval x.2)) = some (arrC n c')
  | [], l', c, c', ht, hp => by
    simp only [trParts, Option.some.injEq] at ht
    subst ht
    simp only [placeAll, Option.some.injEq] at hp
    subst hp
    rfl
  | (i, x) :: l, l', c, c', ht, hp => by
    simp only [trParts, bind, Option.bind_eq_some_iff] at ht
    obtain ⟨⟨o, s⟩, hpl, x', hx, r, hr, ht⟩ := ht
    split at ht
    · rename_i hb
      simp only [Option.some.injEq] at ht
      subst ht
      simp only [placeAll] at hp
      simp only [List.map_cons, Instr.fill, hpl]
      split at hp
      · rename_i v hv
        split at hp
        · have he := trX_eval hag hx hv
          have hc : (a.eval x).cells = arrC 1 (fun _ => v) := by
            rw [he]; simp only [AV.conc, SV.cells]
            apply arrC_ext
            · rfl
            · intro i hi; have : i = 0 := by omega
              subst this; rfl
          rw [hc]
          have h1 : ¬ ((decide ((arrC 1 fun _ => v).size ≠ 1) || decide (o + (arrC 1 fun _ => v).size > (arrC n c).size)) = true) := by simp; omega
          rw [if_neg h1, foldl_arr, splice_one _ _ _ _ rfl]
          exact fill_placeAll hag place n l r _ _ hr hp
        · cases hp
      · rename_i m d hv
        split at hp
        · rename_i hms
          have hms := Nat.eq_of_beq_eq_true hms
          subst hms
          have he := trX_eval hag hx hv
          have hc : (a.eval x).cells = arrC m d := by rw [he]; rfl
          rw [hc]
          have h1 : ¬ ((decide ((arrC m d).size ≠ m) || decide (o + (arrC m d).size > (arrC n c).size)) = true) := by simp; omega
          rw [if_neg h1, foldl_arr]
          exact fill_placeAll hag place n l r _ _ hr hp
        · cases hp
      · cases hp
    · cases ht

theorem svs_spec {N : Nat} {e : Env} {a : Act} (hag : Ag N e a) : ∀ (l : List Operand) (l' : List X) (r : List SV), l.mapM trX = some l' → svs e l' = some r → l.map a.eval = r.map SV.conc
  | [], l', r, h, hr => by
    simp at h; subst h
    simp only [svs, Option.some.injEq] at hr; subst hr; rfl
  | x :: l, l', r, h, hr => by
    simp only [List.mapM_cons, bind, Option.bind_eq_some_iff, pure, Option.some.injEq] at h
    obtain ⟨x', hx, l'', hl, rfl⟩ := h
    simp only [svs] at hr
    split at hr
    · rename_i v r' hv hr'
      cases hr
      simp [trX_eval hag hx hv, AV.conc, svs_spec hag l l'' r' hl hr']
    · cases hr

end
end Go.V

/- Soundness of the pure instructions. -/
namespace Go.V
variable [BW]
set_option linter.unusedSimpArgs false
set_option linter.unusedVariables false

section
variable {P : Program}

theorem run_v {s : Sem Value} {v : Value} {w : World} (h : s.run P w = .ok v w) : ((do let x ← s; pure (.value x)) : Sem Next).run P w = .ok (.value v) w := by
  simp [h]

theorem run_part {e : TypeId} {m : Option Nat} (hm : shOf P e = some m) {n : Nat} {c : Nat → SV} {off : Nat} {K : AV → Prop} (h : partV m n c off K) :
    ∃ v : AV, K v ∧ ∀ w, (part e (arrC n c) off).run P w = .ok v.conc w := by
  simp only [shOf, bind, Option.bind_eq_some_iff] at hm
  obtain ⟨i, hi, d, hd, hm⟩ := hm
  have hu := fun w => run_underlying (P := P) hd w
  have hz : ∀ w, (sizeOf e).run P w = .ok i.size w := fun w => by simp [sizeOf, typeInfo, hi]
  unfold part isAgg
  cases d
  case struct fs =>
    simp only [Option.some.injEq] at hm; subst hm
    refine ⟨_, h.2, fun w => ?_⟩
    simp [hu, hz, AV.conc, arrC_extract _ _ _ _ h.1]
  case array l e' =>
    simp only [Option.some.injEq] at hm; subst hm
    refine ⟨_, h.2, fun w => ?_⟩
    simp [hu, hz, AV.conc, arrC_extract _ _ _ _ h.1]
  all_goals
    simp only [Option.some.injEq] at hm; subst hm
    refine ⟨_, h.2, fun w => ?_⟩
    have := arrC_get n c off h.1
    simp [hu, hz, AV.conc, this]

theorem args_two0 {l : Array Operand} {x y : X} (h : l.toList.mapM trX = some [x, y]) : ∃ a b, l = #[a, b] ∧ trX a = some x ∧ trX b = some y := by
  obtain ⟨l⟩ := l
  dsimp only at h
  cases l with
  | nil => simp at h
  | cons a l =>
    simp only [List.mapM_cons, bind, Option.bind_eq_some_iff, pure, Option.some.injEq] at h
    obtain ⟨x', hx, l', hl, h⟩ := h
    cases h
    cases l with
    | nil => simp at hl
    | cons b l =>
      simp only [List.mapM_cons, bind, Option.bind_eq_some_iff, pure, Option.some.injEq] at hl
      obtain ⟨y', hy, l', hl, h⟩ := hl
      cases h
      cases l with
      | nil => exact ⟨a, b, rfl, hx, hy⟩
      | cons c l =>
        simp only [List.mapM_cons, bind, Option.bind_eq_some_iff, pure, Option.some.injEq] at hl
        obtain ⟨_, _, _, _, h⟩ := hl
        cases h

theorem args_one {l : Array Operand} {x : X} (h : l.toList.mapM trX = some [x]) : ∃ y, l = #[y] ∧ trX y = some x := by
  obtain ⟨l⟩ := l
  dsimp only at h
  cases l with
  | nil => simp at h
  | cons y l =>
    simp only [List.mapM_cons, bind, Option.bind_eq_some_iff, pure, Option.some.injEq] at h
    obtain ⟨x', hx, l', hl, h⟩ := h
    cases h
    cases l with
    | nil => exact ⟨y, rfl, hx⟩
    | cons z l =>
      simp only [List.mapM_cons, bind, Option.bind_eq_some_iff, pure, Option.some.injEq] at hl
      obtain ⟨_, _, _, _, h⟩ := hl
      cases h

theorem slc_addr (b o l sz m : Nat) : (if m = l then (some ⟨b, o, none⟩ : Option Addr) else some ((⟨b, o, none⟩ : Addr).add (l * sz))) = some ⟨b, if m = l then o else o + l * sz, none⟩ := by
  split
  · rfl
  · rw [addr_add]

theorem eqIn_slice {d : Nat} {t el : TypeId} (hd : P.underlying t = some (.slice el)) (a : Option Addr) (l c : Nat) (w : World) :
    (Op.equalIn (d + 1) t (.slice a l c) (.slice none 0 0)).run P w = .ok a.isNone w := by
  cases a <;> simp [Op.equalIn, run_underlying hd]
theorem eqIn_nil {d : Nat} {t : TypeId} {ms : Array (String × TypeId)} (hd : P.underlying t = some (.interface ms)) (w : World) :
    (Op.equalIn (d + 1) t .nilIface .nilIface).run P w = .ok true w := by
  simp [Op.equalIn, run_underlying hd]
theorem eqIn_ifc {d : Nat} {t u : TypeId} {v : Value} {ms : Array (String × TypeId)} (hd : P.underlying t = some (.interface ms)) (w : World) :
    (Op.equalIn (d + 1) t (.iface u v) .nilIface).run P w = .ok false w := by
  simp [Op.equalIn, run_underlying hd]
theorem run_eqn {op : BinOp} {t : TypeId} {x y : Operand} {u v : Value} {b : Bool} {w : World} {c : Value}
    (hg : (eqGuard op t x y u v).run P w = .ok () w) (he : (Op.equalIn 10000 t u v).run P w = .ok b w)
    (hb : (op = .eql ∧ binOp op t u v = (do pure (.bool (← Op.equal t u v))) ∧ c = .bool b) ∨ (op = .neq ∧ binOp op t u v = (do pure (.bool (!(← Op.equal t u v)))) ∧ c = .bool (!b))) :
    ((do eqGuard op t x y u v; binOp op t u v) : Sem Value).run P w = .ok c w := by
  rw [Sem.run_bind, hg]
  simp only [Result.andThen_ok]
  rcases hb with ⟨_, hb, rfl⟩ | ⟨_, hb, rfl⟩
  · rw [hb, Sem.run_bind]; simp only [Op.equal, Op.maxDepth, he, Result.andThen_ok, Sem.run_pure]
  · rw [hb, Sem.run_bind]; simp only [Op.equal, Op.maxDepth, he, Result.andThen_ok, Sem.run_pure]

set_option maxHeartbeats 8000000 in
theorem pv_sound {N : Nat} {e : Env} {a : Act} {H : Hp} (hag : Ag N e a) {o : Oper} {i : I} (ht : trI P o.type o.op = some i) {K : AV → Prop} (hp : PV i e H K) :
    ∃ v : AV, K v ∧ ∀ w0 n w, Mem w0 H n w → (execOp a.eval o).run P w = .ok (.value v.conc) w := by
  obtain ⟨dst, op, ty, pos, after, guard⟩ := o
  dsimp only at ht
  cases op <;> simp only [trI, bind, Option.bind_eq_some_iff, Option.some.injEq, reduceCtorEq] at ht
  case move x =>
    obtain ⟨x', hx, rfl⟩ := ht
    simp only [PV] at hp
    split at hp
    · rename_i v hv
      exact ⟨v, hp, fun _ _ w _ => by simp [execOp, trX_eval hag hx hv]⟩
    · exact hp.elim
  case assign x =>
    obtain ⟨x', hx, rfl⟩ := ht
    simp only [PV] at hp
    split at hp
    · rename_i v hv
      exact ⟨v, hp, fun _ _ w _ => by simp [execOp, trX_eval hag hx hv]⟩
    · exact hp.elim
  case pick c x y =>
    obtain ⟨c', hc, x', hx, y', hy, rfl⟩ := ht
    simp only [PV] at hp
    split at hp
    · rename_i t hv
      split at hp
      · rename_i v hv2
        refine ⟨v, hp, fun _ _ w _ => ?_⟩
        have e1 := trX_eval hag hc hv
        cases t
        · simp only [Bool.false_eq_true, if_false] at hv2
          simp [execOp, e1, AV.conc, SV.conc, asBool, trX_eval hag hy hv2]
        · simp only [if_true] at hv2
          simp [execOp, e1, AV.conc, SV.conc, asBool, trX_eval hag hx hv2]
      · exact hp.elim
    · exact hp.elim
  case build t ps =>
    obtain ⟨z, hz, d, hd, ht⟩ := ht
    obtain ⟨i, zv, hi, hzv, hcs, hsz⟩ := zOf_spec hz
    have fin : ∀ {l' : List (Nat × Nat × X)} {place : Nat → Option (Nat × Nat)}, trParts place z.size ps.toList = some l' →
        (∀ cells, Instr.fill place zv.cells (ps.toList.map fun x => (x.1, a.eval x.2)) = some cells → P.built t (ps.toList.map fun x => (x.1, a.eval x.2)) = some cells) →
        PV (.build z.size z l') e H K → ∃ v : AV, K v ∧ ∀ w0 n w, Mem w0 H n w → (execOp a.eval ⟨dst, .build t ps, ty, pos, after, guard⟩).run P w = .ok (.value v.conc) w := by
      intro l' place hl hb hp
      simp only [PV] at hp
      split at hp
      · rename_i c hc
        refine ⟨_, hp, fun _ _ w _ => ?_⟩
        have h1 := fill_placeAll hag place z.size _ _ _ _ hl hc
        rw [← hcs] at h1
        have h2 := hb _ h1
        have h3 := run_build (P := P) w t (ps.map fun x => (x.1, a.eval x.2)) _ (by simpa using h2)
        simp only [execOp]
        exact run_v h3
      · exact hp.elim
    cases d <;> simp only [Option.bind_eq_some_iff, Option.some.injEq, reduceCtorEq] at ht
    case struct fs =>
      obtain ⟨places, hpl, l', hl, rfl⟩ := ht
      exact fin hl (fun cells hc => by simp only [Program.built, hi, hd, hzv, hpl]; exact hc) hp
    case array len el =>
      obtain ⟨s, hs, l', hl, rfl⟩ := ht
      simp only [sizeT, Option.map_eq_some_iff] at hs
      obtain ⟨j, hj, rfl⟩ := hs
      exact fin hl (fun cells hc => by simp only [Program.built, hi, hd, hzv, hj]; exact hc) hp
  case load t x =>
    obtain ⟨m, hm, x', hx, rfl⟩ := ht
    simp only [PV] at hp
    split at hp
    · rename_i b off hv
      split at hp
      · rename_i k hk
        have e1 := trX_eval hag hx hv
        cases m with
        | none =>
          refine ⟨_, hp.2, fun w0 n w hw => ?_⟩
          simp only [execOp, e1, AV.conc, SV.conc, Instr.loadAt, Instr.sureAddr]
          exact run_v (run_loadVar hm hw hk (off := off) (by simp only [Option.getD_none, Option.getD_some]; have := hp.1; omega))
        | some z =>
          refine ⟨_, hp.2, fun w0 n w hw => ?_⟩
          simp only [execOp, e1, AV.conc, SV.conc, Instr.loadAt, Instr.sureAddr]
          exact run_v (run_loadVar hm hw hk (off := off) (by simp only [Option.getD_none, Option.getD_some]; have := hp.1; omega))
      · have e1 := trX_eval hag hx hv
        cases m with
        | none =>
          obtain ⟨v, hv, hk⟩ := hp
          refine ⟨_, hk, fun w0 n w hw => ?_⟩
          simp only [execOp, e1, AV.conc, SV.conc, Instr.loadAt, Instr.sureAddr]
          exact run_v (run_roVar1 hm hw hv)
        | some z =>
          obtain ⟨c, hv, hk⟩ := hp
          refine ⟨_, hk, fun w0 n w hw => ?_⟩
          simp only [execOp, e1, AV.conc, SV.conc, Instr.loadAt, Instr.sureAddr]
          exact run_v (run_roVar2 hm hw hv)
    · exact hp.elim
  case nilCheck x =>
    obtain ⟨x', hx, rfl⟩ := ht
    simp only [PV] at hp
    split at hp
    · rename_i b off hv
      have e1 := trX_eval hag hx hv
      exact ⟨_, hp, fun _ _ w _ => by simp [execOp, e1, AV.conc, SV.conc]⟩
    · exact hp.elim
  case binOp op t x y yt =>
    obtain ⟨x', hx, y', hy, d, hd, ht⟩ := ht
    have hbin : PV (.bin op x' y') e H K → ∃ v : AV, K v ∧ ∀ w0 n w, Mem w0 H n w → (execOp a.eval ⟨dst, .binOp op t x y yt, ty, pos, after, guard⟩).run P w = .ok (.value v.conc) w := by
      intro hp
      simp only [PV] at hp
      split at hp
      · rename_i u v hu hv
        obtain ⟨r, hr, hrun⟩ := run_binS (P := P) (t := t) (xo := x) (yo := y) hp
        refine ⟨_, hr, fun _ _ w _ => ?_⟩
        simp only [execOp, trX_eval hag hx hu, trX_eval hag hy hv, AV.conc]
        exact run_v (hrun w)
      · exact hp.elim
    cases d <;> simp only [Option.some.injEq, reduceCtorEq] at ht
    case int k => subst ht; exact hbin hp
    case string => subst ht; exact hbin hp
    case bool =>
      cases op <;> simp only [Option.some.injEq, reduceCtorEq] at ht
      all_goals
        subst ht
        simp only [PV] at hp
        split at hp
        · rename_i u v hu hv
          refine ⟨_, hp, fun _ _ w _ => ?_⟩
          have e1 := trX_eval hag hx hu
          have e2 := trX_eval hag hy hv
          simp only [execOp, e1, e2, AV.conc, SV.conc]
          refine run_v ?_
          first
            | exact run_eqn rfl (run_equalIn_bool' w 9999 t u v hd) (.inl ⟨rfl, rfl, rfl⟩)
            | exact run_eqn rfl (run_equalIn_bool' w 9999 t u v hd) (.inr ⟨rfl, rfl, rfl⟩)
        · exact hp.elim
    case slice el =>
      cases op <;> (split at ht <;> simp only [Option.some.injEq, reduceCtorEq] at ht)
      all_goals try (exfalso; simp_all; done)
      all_goals
        subst ht
        simp only [PV] at hp
        split at hp
        · rename_i hu
          refine ⟨_, hp, fun _ _ w _ => ?_⟩
          have e1 := trX_eval hag hx hu
          have e2 := trX_eval (v := .s .nils) hag hy rfl
          simp only [execOp, e1, e2, AV.conc, SV.conc]
          refine run_v ?_
          first
            | exact run_eqn rfl (eqIn_slice (d := 9999) hd _ _ _ w) (.inl ⟨rfl, rfl, rfl⟩)
            | exact run_eqn rfl (eqIn_slice (d := 9999) hd _ _ _ w) (.inr ⟨rfl, rfl, rfl⟩)
        · rename_i hu
          refine ⟨_, hp, fun _ _ w _ => ?_⟩
          have e1 := trX_eval hag hx hu
          have e2 := trX_eval (v := .s .nils) hag hy rfl
          simp only [execOp, e1, e2, AV.conc, SV.conc]
          refine run_v ?_
          first
            | exact run_eqn rfl (eqIn_slice (d := 9999) hd _ _ _ w) (.inl ⟨rfl, rfl, rfl⟩)
            | exact run_eqn rfl (eqIn_slice (d := 9999) hd _ _ _ w) (.inr ⟨rfl, rfl, rfl⟩)
        · exact hp.elim
    case interface ms =>
      cases op <;> (split at ht <;> simp only [Option.some.injEq, reduceCtorEq] at ht)
      all_goals try (exfalso; simp_all; done)
      all_goals
        subst ht
        simp only [PV] at hp
        split at hp
        · rename_i hu
          refine ⟨_, hp, fun _ _ w _ => ?_⟩
          have e1 := trX_eval hag hx hu
          simp only [execOp, e1, AV.conc, SV.conc]
          refine run_v ?_
          first
            | exact run_eqn (by cases x <;> rfl) (eqIn_nil (d := 9999) hd w) (.inl ⟨rfl, rfl, rfl⟩)
            | exact run_eqn (by cases x <;> rfl) (eqIn_nil (d := 9999) hd w) (.inr ⟨rfl, rfl, rfl⟩)
            | exact run_eqn rfl (eqIn_ifc (d := 9999) hd w) (.inl ⟨rfl, rfl, rfl⟩)
            | exact run_eqn rfl (eqIn_ifc (d := 9999) hd w) (.inr ⟨rfl, rfl, rfl⟩)
        · rename_i hu
          refine ⟨_, hp, fun _ _ w _ => ?_⟩
          have e1 := trX_eval hag hx hu
          simp only [execOp, e1, AV.conc, SV.conc]
          refine run_v ?_
          first
            | exact run_eqn (by cases x <;> rfl) (eqIn_nil (d := 9999) hd w) (.inl ⟨rfl, rfl, rfl⟩)
            | exact run_eqn (by cases x <;> rfl) (eqIn_nil (d := 9999) hd w) (.inr ⟨rfl, rfl, rfl⟩)
            | exact run_eqn rfl (eqIn_ifc (d := 9999) hd w) (.inl ⟨rfl, rfl, rfl⟩)
            | exact run_eqn rfl (eqIn_ifc (d := 9999) hd w) (.inr ⟨rfl, rfl, rfl⟩)
        · exact hp.elim
    case array len el =>
      simp only [Option.bind_eq_some_iff] at ht
      obtain ⟨n, hn, ht⟩ := ht
      split at ht
      · cases ht
      · rename_i hg
        cases op <;> simp only [Option.some.injEq, reduceCtorEq] at ht
        all_goals
          subst ht
          simp only [PV] at hp
          split at hp
          · rename_i n1 c n2 d' hu hv
            obtain ⟨⟨rfl, rfl⟩, hci, hp⟩ := hp
            refine ⟨_, hp, fun _ _ w _ => ?_⟩
            have e1 := trX_eval hag hx hu
            have e2 := trX_eval hag hy hv
            simp only [execOp, e1, e2, AV.conc, SV.conc]
            refine run_v ?_
            have h1 := run_equalIn_intTy (P := P) 5 t _ hn 9999 (by omega) c d' hci w (by simp [hd])
            rw [Sem.run_bind, run_eqGuard_agg w _ t _ _ _ _ (by simpa using hg)]
            simp only [Result.andThen_ok]
            first
              | (rw [run_eql_struct, h1]; simp)
              | (rw [run_neq_struct, h1]; simp)
          · exact hp.elim
  case unOp op t x =>
    obtain ⟨x', hx, rfl⟩ := ht
    simp only [PV] at hp
    split at hp
    · rename_i b hv
      exact ⟨_, hp, fun _ _ w _ => by simp [execOp, trX_eval hag hx hv, AV.conc, SV.conc, Op.unary]⟩
    · rename_i k n hv
      exact ⟨_, hp, fun _ _ w _ => by simp [execOp, trX_eval hag hx hv, AV.conc, SV.conc, Op.unary, Op.intArith]⟩
    · exact hp.elim
  case convert src dst' x =>
    obtain ⟨d, hd, d', hd', ht⟩ := ht
    split at ht
    · simp only [Option.bind_eq_some_iff, Option.some.injEq] at ht
      obtain ⟨x', hx, rfl⟩ := ht
      simp only [PV] at hp
      split at hp
      · rename_i k' n hv
        refine ⟨_, hp, fun _ _ w _ => ?_⟩
        simp only [execOp, trX_eval hag hx hv, AV.conc, SV.conc]
        refine run_v ?_
        simp [convert, run_underlying hd, run_underlying hd', Conv.intToInt]
      · exact hp.elim
    · cases ht
  case fieldAddr s x f =>
    obtain ⟨d, hd, ht⟩ := ht
    split at ht
    · rename_i fs
      simp only [Option.bind_eq_some_iff] at ht
      obtain ⟨fl, hf, z, hz, ht⟩ := ht
      split at ht
      · cases ht
      · rename_i hz0
        simp only [Option.bind_eq_some_iff, Option.some.injEq] at ht
        obtain ⟨x', hx, rfl⟩ := ht
        simp only [PV] at hp
        split at hp
        · rename_i b o hv
          refine ⟨_, hp, fun _ _ w _ => ?_⟩
          simp only [execOp, trX_eval hag hx hv, AV.conc, SV.conc]
          refine run_v ?_
          simp only [sizeT, Option.map_eq_some_iff] at hz
          obtain ⟨ti, hti, rfl⟩ := hz
          have hs : (sizeOf fl.type).run P w = .ok ti.size w := by simp [sizeOf, typeInfo, hti]
          simp [Instr.fieldAt, run_underlying hd, hf, Instr.sureAddr, fieldPlace, hs, hz0, addr_add]
        · exact hp.elim
    · cases ht
  case field s x f =>
    obtain ⟨d, hd, ht⟩ := ht
    split at ht
    · rename_i fs
      simp only [Option.bind_eq_some_iff, Option.some.injEq] at ht
      obtain ⟨fl, hf, m, hm, x', hx, rfl⟩ := ht
      simp only [PV] at hp
      split at hp
      · rename_i n c hv
        obtain ⟨v, hv', hr⟩ := run_part (P := P) hm hp
        refine ⟨v, hv', fun _ _ w _ => ?_⟩
        simp only [execOp, trX_eval hag hx hv, AV.conc, SV.conc]
        refine run_v ?_
        simp [Instr.field, run_underlying hd, hf, asAgg, hr]
      · exact hp.elim
    · cases ht
  case indexAddr t x ix =>
    obtain ⟨d, hd, ht⟩ := ht
    cases d <;> simp only [Option.bind_eq_some_iff, Option.some.injEq, reduceCtorEq] at ht
    case array len el =>
      obtain ⟨s, hs, x', hx, i', hi, rfl⟩ := ht
      simp only [PV] at hp
      split at hp
      · rename_i b o k j hv hj
        refine ⟨_, hp.2, fun _ _ w _ => ?_⟩
        simp only [execOp, trX_eval hag hx hv, trX_eval hag hi hj, AV.conc, SV.conc]
        refine run_v ?_
        simp only [sizeT, Option.map_eq_some_iff] at hs
        obtain ⟨ti, hti, rfl⟩ := hs
        have hs : (sizeOf el).run P w = .ok ti.size w := by simp [sizeOf, typeInfo, hti]
        simp [Instr.indexAt, asIntOf, run_underlying hd, Instr.sureAddr, hp.1, hs, addr_add]
      · exact hp.elim
    case slice el =>
      obtain ⟨s, hs, x', hx, i', hi, rfl⟩ := ht
      simp only [PV] at hp
      split at hp
      · rename_i b o l cp k j hv hj
        refine ⟨_, hp.2, fun _ _ w _ => ?_⟩
        simp only [execOp, trX_eval hag hx hv, trX_eval hag hi hj, AV.conc, SV.conc]
        refine run_v ?_
        simp only [sizeT, Option.map_eq_some_iff] at hs
        obtain ⟨ti, hti, rfl⟩ := hs
        have hs : (sizeOf el).run P w = .ok ti.size w := by simp [sizeOf, typeInfo, hti]
        simp [Instr.indexAt, asIntOf, run_underlying hd, Instr.sureAddr, hp.1, hs, addr_add]
      · exact hp.elim
  case index t x ix =>
    obtain ⟨d, hd, ht⟩ := ht
    cases d <;> simp only [Option.bind_eq_some_iff, Option.some.injEq, reduceCtorEq] at ht
    case array len el =>
      obtain ⟨s, hs, m, hm, x', hx, i', hi, rfl⟩ := ht
      simp only [PV] at hp
      split at hp
      · rename_i n c k j hv hj
        obtain ⟨hb, hp⟩ := hp
        obtain ⟨v, hv', hr⟩ := run_part (P := P) hm hp
        refine ⟨v, hv', fun _ _ w _ => ?_⟩
        simp only [execOp, trX_eval hag hx hv, trX_eval hag hi hj, AV.conc, SV.conc]
        refine run_v ?_
        simp only [sizeT, Option.map_eq_some_iff] at hs
        obtain ⟨ti, hti, rfl⟩ := hs
        have hs : (sizeOf el).run P w = .ok ti.size w := by simp [sizeOf, typeInfo, hti]
        simp [Instr.index, asIntOf, run_underlying hd, hb, hs, hr]
      · exact hp.elim
    case string =>
      obtain ⟨x', hx, i', hi, rfl⟩ := ht
      simp only [PV] at hp
      split at hp
      · rename_i s k j hv hj
        obtain ⟨h0, h1, hp⟩ := hp
        refine ⟨_, hp, fun _ _ w _ => ?_⟩
        simp only [execOp, trX_eval hag hx hv, trX_eval hag hi hj, AV.conc, SV.conc]
        refine run_v ?_
        have hg : s[j.toNat]? = some s[j.toNat] := by simp [h1]
        simp [Instr.index, asIntOf, run_underlying hd, h0, hg]
      · exact hp.elim
  case extract x k =>
    obtain ⟨x', hx, rfl⟩ := ht
    simp only [PV] at hp
    split at hp
    · rename_i l hv
      split at hp
      · rename_i v hk
        refine ⟨v, hp, fun _ _ w _ => ?_⟩
        simp only [execOp, trX_eval hag hx hv, AV.conc, SV.conc]
        refine run_v ?_
        simp [Instr.extract, AV.concs_eq, hk]
      · exact hp.elim
    · exact hp.elim
  case makeFunc fn pre post =>
    cases fn <;> simp only [trI, bind, Option.bind_eq_some_iff, Option.some.injEq, reduceCtorEq] at ht
    rename_i f
    obtain ⟨pre', h1, post', h2, rfl⟩ := ht
    simp only [PV] at hp
    split at hp
    · rename_i l r hl hr
      refine ⟨_, hp, fun _ _ w _ => ?_⟩
      have e1 := svs_spec hag _ _ _ h1 hl
      have e2 := svs_spec hag _ _ _ h2 hr
      have e1' : pre.map a.eval = (l.map SV.conc).toArray := Array.toList_inj.1 (by rw [Array.toList_map]; exact e1)
      have e2' : post.map a.eval = (r.map SV.conc).toArray := Array.toList_inj.1 (by rw [Array.toList_map]; exact e2)
      simp [execOp, Instr.makeFunc, AV.conc, SV.conc, SV.concs_eq, e1', e2']
    · exact hp.elim
  case sliceToArrayPointer t x =>
    obtain ⟨d, hd, ht⟩ := ht
    split at ht
    · simp only [Option.bind_eq_some_iff, Option.some.injEq] at ht
      obtain ⟨x', hx, rfl⟩ := ht
      simp only [PV] at hp
      split at hp
      · rename_i b o l cp hv
        refine ⟨_, hp.2, fun _ _ w _ => ?_⟩
        simp only [execOp, trX_eval hag hx hv, AV.conc, SV.conc]
        refine run_v ?_
        simp [Instr.arrayAt, run_underlying hd, Nat.not_lt.2 hp.1]
      · exact hp.elim
    · cases ht
  case slice t x lo hi mx =>
    obtain ⟨d, hd, ht⟩ := ht
    cases d <;> simp only [Option.bind_eq_some_iff, Option.some.injEq, reduceCtorEq] at ht
    case array len el =>
      obtain ⟨s, hs, x', hx, lo', hlo, hi', hhi, mx', hmx, rfl⟩ := ht
      simp only [PV] at hp
      split at hp
      · rename_i b o hv
        obtain ⟨l, h, m, hk, hr⟩ := run_bounds (P := P) (isSlice := false) hag hlo hhi hmx hp
        refine ⟨_, hk, fun _ _ w _ => ?_⟩
        simp only [execOp, trX_eval hag hx hv, AV.conc, SV.conc]
        refine run_v ?_
        simp only [sizeT, Option.map_eq_some_iff] at hs
        obtain ⟨ti, hti, rfl⟩ := hs
        have hs : (sizeOf el).run P w = .ok ti.size w := by simp [sizeOf, typeInfo, hti]
        simp only [Instr.sliceAt, Sem.run_bind, run_underlying hd, Result.andThen_ok, Instr.sureAddr, Sem.run_pure, hr, hs]
        congr 2
        split <;> simp [addr_add]
      · exact hp.elim
    case slice el =>
      obtain ⟨s, hs, x', hx, lo', hlo, hi', hhi, mx', hmx, rfl⟩ := ht
      simp only [sizeT, Option.map_eq_some_iff] at hs
      obtain ⟨ti, hti, rfl⟩ := hs
      simp only [PV] at hp
      split at hp
      · rename_i b o len cp hv
        obtain ⟨l, h, m, hk, hr⟩ := run_bounds (P := P) (isSlice := true) hag hlo hhi hmx hp
        refine ⟨_, hk, fun _ _ w _ => ?_⟩
        simp only [execOp, trX_eval hag hx hv, AV.conc, SV.conc]
        refine run_v ?_
        have hs : (sizeOf el).run P w = .ok ti.size w := by simp [sizeOf, typeInfo, hti]
        simp only [Instr.sliceAt, Instr.slice, Sem.run_bind, run_underlying hd, Result.andThen_ok, Sem.run_pure, hr, hs]
        congr 2
        split <;> simp [addr_add]
      · rename_i hv
        obtain ⟨l, h, m, ⟨hk, hl, hm, hh⟩, hr⟩ := run_bounds (P := P) (K := fun l h m => K (.s .nils) ∧ l = 0 ∧ m = 0 ∧ h = 0) (isSlice := true) hag hlo hhi hmx (by
          have aux : ∀ (x : Option X) {K K' : Nat → Prop}, (∀ r, r ≤ 0 → K r → K' r) → bndV e x 0 0 K → bndV e x 0 0 K' := by
            intro x K K' h hb
            unfold bndV at *
            split at hb
            · exact h _ (Nat.le_refl _) hb
            · split at hb
              · exact ⟨hb.1, h _ (by omega) hb.2⟩
              · exact hb.elim
          refine aux _ (fun m hm => ?_) hp
          have hm : m = 0 := by omega
          subst hm
          refine aux _ (fun h hh => ?_)
          have hh : h = 0 := by omega
          subst hh
          rintro ⟨h1, h2⟩
          refine ⟨h1, aux _ (fun l hl hk => ?_) h2⟩
          have hl : l = 0 := by omega
          exact ⟨hk, hl, rfl, rfl⟩)
        subst hl hm hh
        refine ⟨_, hk, fun _ _ w _ => ?_⟩
        simp only [execOp, trX_eval hag hx hv, AV.conc, SV.conc]
        refine run_v ?_
        have hs : (sizeOf el).run P w = .ok ti.size w := by simp [sizeOf, typeInfo, hti]
        simp only [Instr.sliceAt, Instr.slice, Sem.run_bind, run_underlying hd, Result.andThen_ok, Sem.run_pure, hr, hs]
        rfl
      · exact hp.elim
    case string =>
      split at ht
      · cases ht
      · rename_i hmx
        simp only [Option.bind_eq_some_iff, Option.some.injEq] at ht
        obtain ⟨x', hx, lo', hlo, hi', hhi, rfl⟩ := ht
        have hmx : mx = none := by cases mx <;> simp_all
        subst hmx
        simp only [PV] at hp
        split at hp
        · rename_i s hv
          obtain ⟨l, h, m, hk, hr⟩ := run_bounds (P := P) (mx := none) (mx' := none) (cap := s.size) (len := s.size) (K := fun l h m => K (.s (.str (s.extract l h)))) (isSlice := false) hag hlo hhi rfl (by
            simp only [bndV]
            unfold bndV at hp
            refine ?_
            split at hp
            · exact ⟨by simp, hp⟩
            · split at hp
              · exact ⟨hp.1, by simp, hp.2⟩
              · exact hp.elim)
          refine ⟨_, hk, fun _ _ w _ => ?_⟩
          simp only [execOp, trX_eval hag hx hv, AV.conc, SV.conc]
          refine run_v ?_
          simp only [Option.map_none] at hr
          simp [Instr.sliceAt, Instr.slice, run_underlying hd, hr]
        · exact hp.elim
  case call c =>
    obtain ⟨args, hargs, ht⟩ := ht
    split at ht
    · cases ht; exact hp.elim
    · simp only [Option.bind_eq_some_iff, Option.some.injEq] at ht
      obtain ⟨x', hx, rfl⟩ := ht
      exact hp.elim
    · rename_i hcal
      simp only [Option.bind_eq_some_iff] at ht
      obtain ⟨t0, ht0, d, hd, ht⟩ := ht
      split at ht
      · rename_i x
        cases ht
        obtain ⟨y, hy, hxy⟩ := args_one hargs
        simp only [PV] at hp
        split at hp
        · rename_i s hv
          refine ⟨_, hp, fun _ _ w _ => ?_⟩
          simp [execOp, resolve, hcal, invoke, builtin, Builtin.len_, ht0, hy, trX_eval hag hxy hv, AV.conc, SV.conc, run_underlying hd, goInt]
        · exact hp.elim
      · rename_i el x
        cases ht
        obtain ⟨y, hy, hxy⟩ := args_one hargs
        simp only [PV] at hp
        split at hp
        · rename_i b o l cp hv
          refine ⟨_, hp, fun _ _ w _ => ?_⟩
          simp [execOp, resolve, hcal, invoke, builtin, Builtin.len_, ht0, hy, trX_eval hag hxy hv, AV.conc, SV.conc, run_underlying hd, goInt]
        · rename_i hv
          refine ⟨_, hp, fun _ _ w _ => ?_⟩
          simp [execOp, resolve, hcal, invoke, builtin, Builtin.len_, ht0, hy, trX_eval hag hxy hv, AV.conc, SV.conc, run_underlying hd, goInt]
        · exact hp.elim
      · rename_i n el x
        cases ht
        obtain ⟨y, hy, hxy⟩ := args_one hargs
        refine ⟨_, hp, fun _ _ w _ => ?_⟩
        simp [execOp, resolve, hcal, invoke, builtin, Builtin.len_, ht0, hy, AV.conc, SV.conc, run_underlying hd, goInt]
      · cases ht
    · simp only [Option.bind_eq_some_iff] at ht
      obtain ⟨t0, _, t1, _, d0, _, d1, _, ht⟩ := ht
      split at ht
      · simp only [Option.bind_eq_some_iff] at ht
        obtain ⟨i, _, ht⟩ := ht
        split at ht
        · cases ht
        · simp only [Option.bind_eq_some_iff, Option.some.injEq] at ht
          obtain ⟨z, _, rfl⟩ := ht
          exact hp.elim
      · cases ht
    · simp only [Option.bind_eq_some_iff] at ht
      obtain ⟨t0, _, d0, _, ht⟩ := ht
      split at ht
      · simp only [Option.bind_eq_some_iff, Option.some.injEq] at ht
        obtain ⟨s, _, rfl⟩ := ht
        exact hp.elim
      · cases ht
    · rename_i hcal
      split at ht
      · rename_i x y
        cases ht
        obtain ⟨u, v, hu, hxu, hyv⟩ := args_two0 hargs
        simp only [PV] at hp
        split at hp
        · rename_i k a k2 b hv1 hv2
          refine ⟨_, hp, fun _ _ w _ => ?_⟩
          simp [execOp, resolve, hcal, invoke, builtin, Builtin.min_, Builtin.min2, hu, trX_eval hag hxu hv1, trX_eval hag hyv hv2, AV.conc, SV.conc]
        · exact hp.elim
      · cases ht
    · rename_i hcal
      split at ht
      · rename_i x y
        cases ht
        obtain ⟨u, v, hu, hxu, hyv⟩ := args_two0 hargs
        simp only [PV] at hp
        split at hp
        · rename_i k a k2 b hv1 hv2
          refine ⟨_, hp, fun _ _ w _ => ?_⟩
          simp [execOp, resolve, hcal, invoke, builtin, Builtin.max_, Builtin.max2, hu, trX_eval hag hxu hv1, trX_eval hag hyv hv2, AV.conc, SV.conc]
        · exact hp.elim
      · cases ht
    · cases ht
  case alloc t =>
    obtain ⟨z, _, rfl⟩ := ht
    exact hp.elim
  case box t x =>
    obtain ⟨z, _, rfl⟩ := ht
    exact hp.elim
  case buildSlice t len ps =>
    obtain ⟨d, hd, ht⟩ := ht
    split at ht
    · simp only [Option.bind_eq_some_iff] at ht
      obtain ⟨z, _, s, _, ht⟩ := ht
      split at ht
      · cases ht
      · simp only [Option.bind_eq_some_iff, Option.some.injEq] at ht
        obtain ⟨l, _, rfl⟩ := ht
        exact hp.elim
    · cases ht
  case store t x y =>
    obtain ⟨s, _, x', _, y', _, rfl⟩ := ht
    exact hp.elim
  case makeSlice t l c =>
    obtain ⟨d, hd, ht⟩ := ht
    split at ht
    · simp only [Option.bind_eq_some_iff] at ht
      obtain ⟨i, _, ht⟩ := ht
      split at ht
      · cases ht
      · simp only [Option.bind_eq_some_iff, Option.some.injEq] at ht
        obtain ⟨z, _, l', _, c', _, rfl⟩ := ht
        exact hp.elim
    · cases ht

end
end Go.V
