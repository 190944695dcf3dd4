/- The pure instructions yield what is said of them, in every world with this memory. -/
import Derived.Test.YtdellpnmbgjofaaVC
namespace Go.V
set_option linter.unusedSimpArgs false
set_option linter.unusedVariables false

section
variable {P : Program}

theorem run_binI {op : BinOp} {t : TypeId} {k : IntKind} {a b : Int} {K : SV → Prop} (h : binI op k a b K) :
    ∃ v : SV, K v ∧ ∀ w, (binOp op t (.int k a) (.int k b)).run P w = .ok v.conc w := by
  cases op <;> simp only [binI] at h
  all_goals first
    | exact h.elim
    | exact ⟨_, h, fun w => by simp [binOp, Op.intArith, Op.intBits, Op.intCmp, SV.conc]⟩
    | exact ⟨_, h.2, fun w => by simp [binOp, Op.intDiv, h.1, SV.conc]⟩

theorem run_eqGuard_int {op : BinOp} {t : TypeId} {x y : Operand} {k : IntKind} {n : Int} {v : Value} {w : World} : (eqGuard op t x y (.int k n) v).run P w = .ok () w := by
  cases op <;> rfl
theorem run_eqGuard_str {op : BinOp} {t : TypeId} {x y : Operand} {s : ByteArray} {v : Value} {w : World} : (eqGuard op t x y (.string s) v).run P w = .ok () w := by
  cases op <;> rfl

theorem run_binS {op : BinOp} {t : TypeId} {xo yo : Operand} {x y : SV} {K : SV → Prop} (h : binS op x y K) :
    ∃ v : SV, K v ∧ ∀ w, ((do eqGuard op t xo yo x.conc y.conc; binOp op t x.conc y.conc) : Sem Value).run P w = .ok v.conc w := by
  unfold binS at h
  split at h
  · rename_i k a k' b
    split at h
    · exact ⟨_, h.2, fun w => by simp [SV.conc, run_eqGuard_int, binOp, Op.shift, Int.not_lt.2 h.1]⟩
    · exact ⟨_, h.2, fun w => by simp [SV.conc, run_eqGuard_int, binOp, Op.shift, Int.not_lt.2 h.1]⟩
    · obtain ⟨rfl, h⟩ := h
      obtain ⟨v, hv, hr⟩ := run_binI (P := P) (t := t) h
      exact ⟨v, hv, fun w => by simp [SV.conc, run_eqGuard_int, hr]⟩
  · rename_i a b
    split at h
    · obtain ⟨h1, h2⟩ := h
      refine ⟨_, h2, fun w => ?_⟩
      have h3 : ¬ ((a.size : Int) + (b.size : Int) > 9223372036854775807) := by omega
      simp only [SV.conc, Sem.run_bind, run_eqGuard_str, Result.andThen_ok]
      simp only [binOp, Op.stringOp, IntKind.max_i64, Int.natCast_add]
      rw [if_neg h3]
      rfl
    all_goals first
      | exact h.elim
      | (refine ⟨_, h, fun w => ?_⟩; simp [SV.conc, run_eqGuard_str, binOp, Op.stringOp])
  · exact h.elim

/-! ### Equality of aggregates of integers -/

theorem part_int {e : TypeId} {k : IntKind} {cs : Array Value} {j : Nat} {v : Value} (hu : P.underlying e = some (.int k)) (hv : cs[j]? = some v) (w : World) :
    (part e cs j).run P w = .ok v w := by
  simp [part, isAgg, run_underlying hu, hv]

theorem part_arr {e e' : TypeId} {l : Nat} {i : TypeInfo} {cs : Array Value} {j : Nat} (hu : P.underlying e = some (.array l e')) (hi : P.info? e = some i) (w : World) :
    (part e cs j).run P w = .ok (.agg (cs.extract j (j + i.size))) w := by
  simp [part, isAgg, run_underlying hu, sizeOf, typeInfo, hi]

def ceqAt (n : Nat) (c d : Nat → SV) (o : Nat) : Bool := ceq n (fun j => c (o + j)) (fun j => d (o + j))

theorem ceq_split (len m : Nat) (c d : Nat → SV) : ceq (len * m) c d = (List.range len).all fun i => ceqAt m c d (i * m) := by
  rw [Bool.eq_iff_iff]
  simp only [ceqAt, ceq, List.all_eq_true, List.mem_range]
  constructor
  · intro h i hi j hj
    apply h
    calc i * m + j < i * m + m := by omega
      _ = (i + 1) * m := by rw [Nat.add_mul, Nat.one_mul]
      _ ≤ len * m := Nat.mul_le_mul_right _ hi
  · intro h x hx
    have hm : 0 < m := by rcases Nat.eq_zero_or_pos m with e | e; · subst e; simp at hx
                          · exact e
    have h1 := h (x / m) (Nat.div_lt_of_lt_mul (by rw [Nat.mul_comm]; exact hx)) (x % m) (Nat.mod_lt _ hm)
    rw [show x / m * m + x % m = x by rw [Nat.mul_comm]; exact Nat.div_add_mod x m] at h1
    exact h1

theorem run_eqLoop (P : Program) (f : Nat → Sem Bool) (g : Nat → Bool) (w : World) : ∀ (l : List Nat), (∀ i ∈ l, (f i).run P w = .ok (g i) w) →
    ((do
      let r ← forIn l ((none, ()) : Option Bool × Unit) fun i r => do
        let x ← f i
        if (!x) = true then pure (ForInStep.done (some false, ())) else pure (ForInStep.yield (none, ()))
      match r.fst with
      | some a => pure a
      | none => pure true) : Sem Bool).run P w = .ok (l.all g) w
  | [], _ => by simp
  | i :: l, h => by
    have ih := run_eqLoop P f g w l (fun j hj => h j (by simp [hj]))
    simp only [List.forIn_cons, Sem.run_bind, h i (by simp), Result.andThen_ok, List.all_cons]
    cases hg : g i with
    | false => simp
    | true =>
      simp only [Bool.not_true, Bool.false_eq_true, if_false, Sem.run_pure, Result.andThen_ok, Bool.true_and]
      simpa using ih

theorem run_equalIn_intTy : ∀ (d : Nat) (t : TypeId) (n : Nat), intTy P d t = some n → ∀ (D : Nat), d ≤ D → ∀ (c c' : Nat → SV), cInt n c c' → ∀ w,
    (P.underlying t).any (fun u => match u with | .array _ _ => true | _ => false) = true → (Op.equalIn (D + 1) t (.agg (arrC n c)) (.agg (arrC n c'))).run P w = .ok (ceq n c c') w := by
  intro d
  induction d with
  | zero => intro t n h; simp [intTy] at h
  | succ d ih =>
    intro t n h D hD c c' hc w ha
    simp only [intTy] at h
    split at h
    · rename_i k i hu hi
      simp [hu] at ha
    · rename_i len e i hu hi
      split at h
      · rename_i m j hm hj
        split at h
        · rename_i hs
          cases h
          obtain ⟨hs1, hs2⟩ := hs
          obtain ⟨D', rfl⟩ : ∃ D', D = D' + 1 := ⟨D - 1, by omega⟩
          have hz : ∀ w, (sizeOf e).run P w = .ok m w := fun w => by simp [sizeOf, typeInfo, hj, hs1]
          rw [Op.equalIn]
          simp only [Sem.run_bind, run_underlying hu, Result.andThen_ok, hz]
          rw [← Sem.run_bind]
          have hl := run_eqLoop P (fun x => do
            let a ← part e (arrC i.size c) (x * m)
            let b ← part e (arrC i.size c') (x * m)
            Op.equalIn (D' + 1) e a b) (fun x => ceqAt m c c' (x * m)) w (List.range len) ?_
          · rw [hs2, ceq_split, ← hs2, ← hl]
            simp only [Std.Legacy.Range.forIn_eq_forIn_range', Std.Legacy.Range.size, Nat.sub_zero, Nat.add_sub_cancel, Nat.div_one, List.range_eq_range', bind_assoc]
            congr 2
            funext r
            rcases r with ⟨_ | _, _⟩ <;> rfl
          · intro x hx
            have hx := List.mem_range.1 hx
            have hb : x * m + m ≤ i.size := by
              rw [hs2]
              calc x * m + m = (x + 1) * m := by rw [Nat.add_mul, Nat.one_mul]
                _ ≤ len * m := Nat.mul_le_mul_right _ hx
            have hc' : cInt m (fun j => c (x * m + j)) (fun j => c' (x * m + j)) := fun q hq => hc _ (by omega)
            -- by the element's type
            cases d with
            | zero => simp [intTy] at hm
            | succ d =>
              have hm0 := hm
              simp only [intTy] at hm0
              split at hm0
              · rename_i k i' hu' hi'
                split at hm0
                · cases hm0
                  obtain ⟨kk, p, q, hp, hq⟩ := hc (x * 1) (by omega)
                  have e1 := part_int (P := P) hu' (arrC_get i.size c (x * 1) (by omega)) w
                  have e2 := part_int (P := P) hu' (arrC_get i.size c' (x * 1) (by omega)) w
                  simp only [Sem.run_bind, e1, e2, Result.andThen_ok, hp, hq, SV.conc]
                  rw [run_equalIn_int w _ _ _ _ _ _ hu']
                  simp only [ceqAt, ceq]
                  simp at hp hq
                  simp [hp, hq]
                · cases hm0
              · rename_i l' e' i' hu' hi'
                split at hm0
                · split at hm0
                  · rename_i hs'
                    cases hm0
                    have hj' : j = i' := Option.some.inj (hj.symm.trans hi')
                    subst hj'
                    have e1 := part_arr (P := P) (cs := arrC i.size c) (j := x * j.size) hu' hi' w
                    have e2 := part_arr (P := P) (cs := arrC i.size c') (j := x * j.size) hu' hi' w
                    simp only [Sem.run_bind, e1, e2, Result.andThen_ok]
                    rw [arrC_extract _ _ _ _ hb, arrC_extract _ _ _ _ hb]
                    exact ih e j.size hm D' (by omega) _ _ hc' w (by simp [hu'])
                  · cases hm0
                · cases hm0
              · cases hm0
        · cases h
      · cases h
    · cases h

/-! ### Bounds -/
theorem run_bound {v : Value} {k : IntKind} {i : Int} {y : Nat} {code : BoundsCode} (h : 0 ≤ i ∧ i ≤ y) (w : World) : (Instr.sliceBound (.int k i) y code).run P w = .ok i.toNat w := by
  simp [Instr.sliceBound, asIntOf, h]

theorem trO_spec {N : Nat} {e : Env} {a : Act} (hag : Ag N e a) {x : Option Operand} {x' : Option X} (ht : trO x = some x') {dflt most : Nat} {K : Nat → Prop} (h : bndV e x' dflt most K) :
    (x = none ∧ x' = none ∧ K dflt) ∨ (∃ y k i, x = some y ∧ x'.isSome = true ∧ a.eval y = .int k i ∧ (0 ≤ i ∧ i ≤ most) ∧ K i.toNat) := by
  cases x with
  | none =>
    simp only [trO, Option.some.injEq] at ht
    subst ht
    exact .inl ⟨rfl, rfl, h⟩
  | some y =>
    simp only [trO, Option.map_eq_some_iff] at ht
    obtain ⟨z, hz, rfl⟩ := ht
    simp only [bndV] at h
    split at h
    · rename_i k i hv
      exact .inr ⟨y, k, i, rfl, rfl, trX_eval hag hz hv, h.1, h.2⟩
    · exact h.elim

theorem run_bounds {N : Nat} {e : Env} {a : Act} (hag : Ag N e a) {lo hi mx : Option Operand} {lo' hi' mx' : Option X} (h1 : trO lo = some lo') (h2 : trO hi = some hi') (h3 : trO mx = some mx')
    {len cap : Nat} {isSlice : Bool} {K : Nat → Nat → Nat → Prop}
    (h : bndV e mx' cap cap fun m => bndV e hi' len m fun h => (mx'.isSome → hi'.isSome) ∧ bndV e lo' 0 h fun l => K l h m) :
    ∃ l h m, K l h m ∧ ∀ w, (Instr.sliceBounds isSlice len cap (lo.map a.eval) (hi.map a.eval) (mx.map a.eval)).run P w = .ok (l, h, m) w := by
  rcases trO_spec hag h3 h with ⟨rfl, rfl, h⟩ | ⟨xm, km, im, rfl, hs, em, bm, h⟩
  · rcases trO_spec hag h2 h with ⟨rfl, rfl, _, h⟩ | ⟨xh, kh, ih, rfl, _, eh, bh, _, h⟩
    · rcases trO_spec hag h1 h with ⟨rfl, rfl, h⟩ | ⟨xl, kl, il, rfl, _, el, bl, h⟩
      · exact ⟨_, _, _, h, fun w => by simp [Instr.sliceBounds]⟩
      · exact ⟨_, _, _, h, fun w => by simp [Instr.sliceBounds, el, run_bound (v := .nilFunc) bl]⟩
    · rcases trO_spec hag h1 h with ⟨rfl, rfl, h⟩ | ⟨xl, kl, il, rfl, _, el, bl, h⟩
      · exact ⟨_, _, _, h, fun w => by simp [Instr.sliceBounds, eh, run_bound (v := .nilFunc) bh]⟩
      · exact ⟨_, _, _, h, fun w => by simp [Instr.sliceBounds, eh, el, run_bound (v := .nilFunc) bh, run_bound (v := .nilFunc) bl]⟩
  · rcases trO_spec hag h2 h with ⟨rfl, rfl, hb, h⟩ | ⟨xh, kh, ih, rfl, _, eh, bh, _, h⟩
    · simp [hs] at hb
    · rcases trO_spec hag h1 h with ⟨rfl, rfl, h⟩ | ⟨xl, kl, il, rfl, _, el, bl, h⟩
      · exact ⟨_, _, _, h, fun w => by simp [Instr.sliceBounds, eh, em, run_bound (v := .nilFunc) bh, run_bound (v := .nilFunc) bm]⟩
      · exact ⟨_, _, _, h, fun w => by simp [Instr.sliceBounds, eh, em, el, run_bound (v := .nilFunc) bh, run_bound (v := .nilFunc) bl, run_bound (v := .nilFunc) bm]⟩

/-! ### What is built -/
theorem foldl_set (cs : Array Value) (off n : Nat) (c : Nat → SV) : ∀ (l : List Value) (s : Nat) (d : Nat → SV), l = (List.range l.length).map (fun j => (d (s + j)).conc) →
    ∀ (c : Nat → SV), ((l.zipIdx s).foldl (fun cs (x : Value × Nat) => cs.setIfInBounds (off + x.2) x.1) (arrC n c)) = arrC n (splice c (off + s) l.length (fun j => d (s + j)))
  | [], s, d, _, c => by
    simp only [List.zipIdx_nil, List.foldl_nil, List.length_nil]
    apply arrC_congr
    intro i hi
    unfold splice
    rw [if_neg (by omega)]
  | v :: l, s, d, h, c => by
    rw [List.length_cons, List.range_succ_eq_map] at h
    simp only [List.map_cons, List.map_map, List.cons.injEq] at h
    obtain ⟨hv, hl⟩ := h
    have h0 : (arrC n c).setIfInBounds (off + s) v = arrC n (put1 c (off + s) (d s)) := by
      apply arrC_ext
      · simp
      · intro i hi
        rw [Array.getElem?_setIfInBounds]
        unfold put1
        by_cases e : off + s = i
        · subst e
          simp [hi, hv]
        · rw [if_neg e, if_neg (Ne.symm e), arrC_get _ _ _ hi]
    simp only [List.zipIdx_cons, List.foldl_cons, h0]
    rw [foldl_set cs off n c l (s + 1) d (by
      rw [hl]
      simp only [List.length_map, List.length_range]
      apply List.map_congr_left
      intro j _
      simp only [Function.comp, Nat.succ_eq_add_one]
      rw [show s + (j + 1) = s + 1 + j by omega])]
    apply arrC_congr
    intro i hi
    unfold splice put1
    simp only [List.length_cons]
    by_cases e1 : i = off + s
    · subst e1
      rw [if_neg (by omega), if_pos rfl, if_pos (by omega)]
      simp
    · by_cases e2 : off + (s + 1) ≤ i ∧ i < off + (s + 1) + l.length
      · have e3 : off + s ≤ i ∧ i < off + s + (l.length + 1) := by omega
        rw [if_pos e2, if_pos e3]
        show d _ = d _
        congr 1; omega
      · have e3 : ¬ (off + s ≤ i ∧ i < off + s + (l.length + 1)) := by omega
        rw [if_neg e2, if_neg e1, if_neg e3]

theorem foldl_arr (off n m : Nat) (c d : Nat → SV) :
    (arrC m d).zipIdx.foldl (fun cs (x : Value × Nat) => match x with | (v, j) => cs.setIfInBounds (off + j) v) (arrC n c) = arrC n (splice c off m d) := by
  have := foldl_set #[] off n c (arrC m d).toList 0 d (by rw [arrC_toList]; simp) c
  simp only [Array.length_toList, arrC_size, Nat.add_zero, Nat.zero_add] at this
  rw [← Array.foldl_toList, Array.toList_zipIdx]
  exact this

theorem splice_one (c : Nat → SV) (o : Nat) (v : SV) (d : Nat → SV) (h : d 0 = v) : splice c o 1 d = put1 c o v := by
  funext i
  unfold splice put1
  by_cases e : i = o
  · subst e; rw [if_pos (by omega), if_pos rfl]; simp [h]
  · rw [if_neg (by omega), if_neg e]

theorem fill_placeAll {N : Nat} {e : Env} {a : Act} (hag : Ag N e a) (place : Nat → Option (Nat × Nat)) (n : Nat) :
    ∀ (l : List (Nat × Operand)) (l' : List (Nat × Nat × X)) (c c' : Nat → SV), trParts place n l = some l' → placeAll e l' c = some c' →
      Instr.fill place (arrC n c) (l.map fun x => (x.1, a.eval x.2)) = some (arrC n c')
  | [], l', c, c', ht, hp => by
    simp only [trParts, Option.some.injEq] at ht
    subst ht
    simp only [placeAll, Option.some.injEq] at hp
    subst hp
    rfl
  | (i, x) :: l, l', c, c', ht, hp => by
    simp only [trParts, bind, Option.bind_eq_some_iff] at ht
    obtain ⟨⟨o, s⟩, hpl, x', hx, r, hr, ht⟩ := ht
    split at ht
    · rename_i hb
      simp only [Option.some.injEq] at ht
      subst ht
      simp only [placeAll] at hp
      simp only [List.map_cons, Instr.fill, hpl]
      split at hp
      · rename_i v hv
        split at hp
        · have he := trX_eval hag hx hv
          have hc : (a.eval x).cells = arrC 1 (fun _ => v) := by
            rw [he]; simp only [AV.conc, SV.cells]
            apply arrC_ext
            · rfl
            · intro i hi; have : i = 0 := by omega
              subst this; rfl
          rw [hc]
          have h1 : ¬ ((decide ((arrC 1 fun _ => v).size ≠ 1) || decide (o + (arrC 1 fun _ => v).size > (arrC n c).size)) = true) := by simp; omega
          rw [if_neg h1, foldl_arr, splice_one _ _ _ _ rfl]
          exact fill_placeAll hag place n l r _ _ hr hp
        · cases hp
      · rename_i m d hv
        split at hp
        · rename_i hms
          have hms := Nat.eq_of_beq_eq_true hms
          subst hms
          have he := trX_eval hag hx hv
          have hc : (a.eval x).cells = arrC m d := by rw [he]; rfl
          rw [hc]
          have h1 : ¬ ((decide ((arrC m d).size ≠ m) || decide (o + (arrC m d).size > (arrC n c).size)) = true) := by simp; omega
          rw [if_neg h1, foldl_arr]
          exact fill_placeAll hag place n l r _ _ hr hp
        · cases hp
      · cases hp
    · cases ht

theorem svs_spec {N : Nat} {e : Env} {a : Act} (hag : Ag N e a) : ∀ (l : List Operand) (l' : List X) (r : List SV), l.mapM trX = some l' → svs e l' = some r → l.map a.eval = r.map SV.conc
  | [], l', r, h, hr => by
    simp at h; subst h
    simp only [svs, Option.some.injEq] at hr; subst hr; rfl
  | x :: l, l', r, h, hr => by
    simp only [List.mapM_cons, bind, Option.bind_eq_some_iff, pure, Option.some.injEq] at h
    obtain ⟨x', hx, l'', hl, rfl⟩ := h
    simp only [svs] at hr
    split at hr
    · rename_i v r' hv hr'
      cases hr
      simp [trX_eval hag hx hv, AV.conc, svs_spec hag l l'' r' hl hr']
    · cases hr

end
end Go.V
