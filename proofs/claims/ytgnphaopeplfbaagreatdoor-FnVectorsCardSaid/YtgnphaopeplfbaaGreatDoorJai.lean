/- Steps: one rule an instruction, to be tried in turn. -/
import Derived.Test.YtgnphaopeplfbaaGreatDoorJah
set_option linter.unusedSectionVars false
set_option linter.unusedVariables false
set_option linter.unusedSimpArgs false
namespace Go.V
variable [BW]
set_option linter.unusedSimpArgs false
set_option linter.unusedVariables false

abbrev i64 (n : Int) : AV := .s (.int .i64 n)
abbrev u8 (n : Int) : AV := .s (.int .u8 n)
abbrev bl (b : Bool) : AV := .s (.bool b)
abbrev ptr (b off : Nat) : AV := .s (.ptr b off)

def bys (f : Nat → Int) : Nat → SV := fun i => .int .u8 (f i)

section
variable {P : Program} {N m : Nat} {d : Option Nat} {l : List Ins} {e : Env} {H : Hp} {n : Nat} {K : Env → Hp → Nat → Prop}


/-- In which order a list of operations is gone through, and what is to hold behind it. -/
inductive Md where
  | seq (K : Env → Hp → Nat → Prop)
  | quiet (K : Env → Prop)
  | ord (K : Env → Hp → Prop)

def LS (P : Program) (N m : Nat) : Md → List Ins → Env → Hp → Nat → Prop
  | .seq K, l, e, H, n => RS P N m l e H n K
  | .quiet K, l, e, H, n => QS P N l e H n K
  | .ord K, l, e, H, n => OS P N m l e H n K

theorem RS.gyes1 {g : Nat × Bool} {i : I} (hg : e.get g.1 = some (.s (.bool g.2))) (h : RS P N m (⟨d, none, i⟩ :: l) e H n K) : RS P N m (⟨d, some g, i⟩ :: l) e H n K := by
  intro ops l' hl w0 w a Q hm hw hag hK
  obtain ⟨o, r, rfl, ho, hr⟩ := mapM_cons_inv hl
  obtain ⟨h1, h2, h3, j, hj, ht⟩ := trOp_spec ho
  -- the same operation without its guard
  have h5 : trOp P N ops { o with guard := none } = some ⟨d, none, i⟩ := by
    simp only [trOp, Option.bind_eq_some_iff] at ho ⊢
    obtain ⟨i', hi', g', hg', hd'⟩ := ho
    refine ⟨i', hi', none, rfl, ?_⟩
    generalize o.dst = ds at hd' ⊢
    cases ds with
    | none => cases hd'; rfl
    | some d' =>
      simp only [trD] at hd' ⊢
      split at hd'
      · rename_i hlt; cases hd'; rw [if_pos hlt]
      · cases hd'
  have h6 := h ops ({ o with guard := none } :: r) (by simp [List.mapM_cons, h5, hr]) w0 w a Q hm hw hag hK
  have hw' : Region.wanted o (yielded ops a.tmps) = true := by rw [wanted_some hag hj ht hg]; simp [isB]
  unfold wpList at h6 ⊢
  rw [if_pos (by simp [Region.wanted])] at h6
  rw [if_pos hw']
  exact h6

theorem Env.get_put (e : Env) (d t : Nat) (v : AV) : (e.put d v).get t = if d = t then some v else e.get t := by
  unfold Env.put
  rw [Env.get_cons]

/-- What is known of a slot may be said in other words. -/
theorem Ag.same {e e1 : Env} {a : Act} (h : Ag N e a) (hl : ∀ t v, e1.get t = some v → e.get t = some v) : Ag N e1 a := ⟨h.size, h.defers, fun t v ht => h.get t v (hl t v ht)⟩

theorem RS.sp1 {t : Nat} {x : Bool} (hg : e.get t = some (.s (.bool x))) (h1 : x = true → RS P N m l (e.put t (.s (.bool true))) H n K) (h2 : x = false → RS P N m l (e.put t (.s (.bool false))) H n K) : RS P N m l e H n K := by
  intro ops l' hl w0 w a Q hm hw hag hK
  cases x with
  | true => exact h1 rfl ops l' hl w0 w a Q hm hw (hag.same fun u v hu => by
      rw [Env.get_put] at hu
      split at hu
      · rename_i e1; subst e1; cases hu; exact hg
      · exact hu) hK
  | false => exact h2 rfl ops l' hl w0 w a Q hm hw (hag.same fun u v hu => by
      rw [Env.get_put] at hu
      split at hu
      · rename_i e1; subst e1; cases hu; exact hg
      · exact hu) hK

theorem QS.gyes1 {K : Env → Prop} {g : Nat × Bool} {i : I} (hg : e.get g.1 = some (.s (.bool g.2))) (h : QS P N (⟨d, none, i⟩ :: l) e H n K) : QS P N (⟨d, some g, i⟩ :: l) e H n K := by
  intro ops l' hl a Kq hag hK
  obtain ⟨o, r, rfl, ho, hr⟩ := mapM_cons_inv hl
  obtain ⟨h1, h2, h3, j, hj, ht⟩ := trOp_spec ho
  have h5 : trOp P N ops { o with guard := none } = some ⟨d, none, i⟩ := by
    simp only [trOp, Option.bind_eq_some_iff] at ho ⊢
    obtain ⟨i', hi', g', hg', hd'⟩ := ho
    refine ⟨i', hi', none, rfl, ?_⟩
    generalize o.dst = ds at hd' ⊢
    cases ds with
    | none => cases hd'; rfl
    | some d' =>
      simp only [trD] at hd' ⊢
      split at hd'
      · rename_i hlt; cases hd'; rw [if_pos hlt]
      · cases hd'
  have h6 := h ops ({ o with guard := none } :: r) (by simp [List.mapM_cons, h5, hr]) a Kq hag hK
  have hw' : Region.wanted o (yielded ops a.tmps) = true := by rw [wanted_some hag hj ht hg]; simp [isB]
  unfold wpQ at h6 ⊢
  rw [if_pos (by simp [Region.wanted])] at h6
  rw [if_pos hw']
  exact h6

theorem QS.sp1 {K : Env → Prop} {t : Nat} {x : Bool} (hg : e.get t = some (.s (.bool x))) (h1 : x = true → QS P N l (e.put t (.s (.bool true))) H n K) (h2 : x = false → QS P N l (e.put t (.s (.bool false))) H n K) : QS P N l e H n K := by
  intro ops l' hl a Kq hag hK
  cases x with
  | true => exact h1 rfl ops l' hl a Kq (hag.same fun u v hu => by
      rw [Env.get_put] at hu
      split at hu
      · rename_i e1; subst e1; cases hu; exact hg
      · exact hu) hK
  | false => exact h2 rfl ops l' hl a Kq (hag.same fun u v hu => by
      rw [Env.get_put] at hu
      split at hu
      · rename_i e1; subst e1; cases hu; exact hg
      · exact hu) hK

variable {D : Md}
theorem LS.pv {i : I} (h : PV i e H fun v => LS P N m D l (putD d v e) H n) : LS P N m D (⟨d, none, i⟩ :: l) e H n := by
  cases D with
  | seq K => exact RS.step trivial (IS.pure h)
  | quiet K => exact QS.pure trivial h
  | ord K => exact OS.pure h
theorem RS.gyes {g : Nat × Bool} {i : I} (hg : e.get g.1 = some (.s (.bool g.2))) (h : LS P N m D (⟨d, none, i⟩ :: l) e H n) : LS P N m D (⟨d, some g, i⟩ :: l) e H n := by
  cases D with
  | seq K => exact RS.gyes1 hg h
  | quiet K => exact QS.gyes1 hg h
  | ord K => exact OS.gyes1 hg h
theorem RS.gno {t : Nat} {b : Bool} {i : I} (hg : e.get t = some (.s (.bool (!b)))) (h : LS P N m D l (putD d .undef e) H n) : LS P N m D (⟨d, some (t, b), i⟩ :: l) e H n := by
  cases D with
  | seq K => exact RS.skip hg (by cases b <;> rfl) h
  | quiet K => exact QS.skip hg (by cases b <;> rfl) h
  | ord K => exact OS.skip hg (by cases b <;> rfl) h
theorem RS.gun {t : Nat} {b : Bool} {i : I} (hg : e.get t = some .undef) (h : LS P N m D l (putD d .undef e) H n) : LS P N m D (⟨d, some (t, b), i⟩ :: l) e H n := by
  cases D with
  | seq K => exact RS.skip hg rfl h
  | quiet K => exact QS.skip hg rfl h
  | ord K => exact OS.skip hg rfl h
theorem RS.sp {t : Nat} {x : Bool} (hg : e.get t = some (.s (.bool x))) (h1 : x = true → LS P N m D l (e.put t (.s (.bool true))) H n) (h2 : x = false → LS P N m D l (e.put t (.s (.bool false))) H n) : LS P N m D l e H n := by
  cases D with
  | seq K => exact RS.sp1 hg h1 h2
  | quiet K => exact QS.sp1 hg h1 h2
  | ord K =>
    cases x with
    | true => exact OS.same (fun a hag => hag.same fun u v hu => by
        rw [Env.get_put] at hu
        split at hu
        · rename_i e1; subst e1; cases hu; exact hg
        · exact hu) (h1 rfl)
    | false => exact OS.same (fun a hag => hag.same fun u v hu => by
        rw [Env.get_put] at hu
        split at hu
        · rename_i e1; subst e1; cases hu; exact hg
        · exact hu) (h2 rfl)
theorem LS.nil (h : K e H n) : LS P N m (.seq K) [] e H n := RS.nil h
theorem LS.nilO {K : Env → Hp → Prop} (h : K e H) : LS P N m (.ord K) [] e H n := OS.nil h
/-- A call among pure operations: it keeps what is there and may make more. -/
theorem LS.callO {K : Env → Hp → Prop} {f : FuncId} {args : List X} {vs : List AV} {R : AV → Hp → Prop} (hv : evs e args = some vs) (hf : ∀ n', n ≤ n' → (∀ b k, H.get b = some k → b < n') → FnS P f vs H n' fun r H' n'' => R r H' ∧ Ext H H')
    (h : ∀ r H', R r H' → Ext H H' → LS P N m (.ord K) l (putD d r e) H' n) : LS P N m (.ord K) (⟨d, none, .call f args⟩ :: l) e H n := OS.call hv hf h
/-- A slice made among pure operations. -/
theorem LS.bslO {K : Env → Hp → Prop} {t : TypeId} {len sz : Nat} {z : Zs} {ps : List (Nat × Nat × X)} {c : Nat → SV} (hp : placeAll e ps (fun i => z.c (i % sz)) = some c)
    (h : ∀ b, n ≤ b → (∀ b' k, H.get b' = some k → b' < b) → LS P N m (.ord K) l (putD d (.s (.slc b 0 len len)) e) ((b, ⟨len * sz, c, t⟩) :: H) n) : LS P N m (.ord K) (⟨d, none, .bsl t len sz z ps⟩ :: l) e H n := OS.bsl hp h
theorem OTS.segL {ll : List Ins} {t : OT} {K : Env → Hp → Prop} (h : LS P N m (.ord fun e' H' => OTS P N m ll t.rest e' H' n K) (pick t.os ll) e H n) : OTS P N m ll t e H n K := OTS.segs h
theorem LS.nilQ {K : Env → Prop} (h : K e) : LS P N m (.quiet K) [] e H n := QS.nil h
/-- A call in a quiet list: its result is one value, whatever has been made of blocks meanwhile. -/
theorem LS.callQ {K : Env → Prop} {f : FuncId} {args : List X} {vs : List AV} (v : AV) (hv : evs e args = some vs) (hf : ∀ n', n ≤ n' → FnS P f vs H n' fun r H' _ => r = v ∧ H' = H)
    (h : LS P N m (.quiet K) l (putD d v e) H n) : LS P N m (.quiet K) (⟨d, none, .call f args⟩ :: l) e H n := QS.call v trivial hv hf h
theorem LS.callvQ {K : Env → Prop} {f : FuncId} {pre post : List SV} {x : X} {args : List X} {vs : List AV} (v : AV) (hx : x.ev e = some (.s (.fn f pre post))) (hv : evs e args = some vs)
    (hf : ∀ n', n ≤ n' → FnS P f (pre.map .s ++ vs ++ post.map .s) H n' fun r H' _ => r = v ∧ H' = H)
    (h : LS P N m (.quiet K) l (putD d v e) H n) : LS P N m (.quiet K) (⟨d, none, .callv x args⟩ :: l) e H n := QS.callv v trivial hx hv hf h

theorem RS.env {e1 : Env} (h : e = e1) (h2 : LS P N m D l e1 H n) : LS P N m D l e H n := h ▸ h2

theorem RS.mov {x : X} {v : AV} (hx : x.ev e = some v) (h : LS P N m D l (putD d v e) H n) : LS P N m D (⟨d, none, .mov x⟩ :: l) e H n :=
  LS.pv (by simp only [PV, hx]; exact h)
theorem RS.pickT {c a b : X} {v : AV} (hc : c.ev e = some (.s (.bool true))) (hx : a.ev e = some v) (h : LS P N m D l (putD d v e) H n) : LS P N m D (⟨d, none, .pick c a b⟩ :: l) e H n :=
  LS.pv (by simp only [PV, hc, hx, if_true]; exact h)
theorem RS.pickF {c a b : X} {v : AV} (hc : c.ev e = some (.s (.bool false))) (hx : b.ev e = some v) (h : LS P N m D l (putD d v e) H n) : LS P N m D (⟨d, none, .pick c a b⟩ :: l) e H n :=
  LS.pv (by simp only [PV, hc, hx, Bool.false_eq_true, if_false]; exact h)
theorem RS.build {z : Zs} {k : Nat} {ps : List (Nat × Nat × X)} {c : Nat → SV} (hc : placeAll e ps z.c = some c) (h : LS P N m D l (putD d (.arr k c) e) H n) : LS P N m D (⟨d, none, .build k z ps⟩ :: l) e H n :=
  LS.pv (by simp only [PV, hc]; exact h)
theorem RS.ld1 {x : X} {b off : Nat} {k : Blk} (hx : x.ev e = some (.s (.ptr b off))) (hb : H.get b = some k) (ho : off < k.size) (h : LS P N m D l (putD d (.s (k.c off)) e) H n) : LS P N m D (⟨d, none, .ld none x⟩ :: l) e H n :=
  LS.pv (by simp only [PV, hx, hb, ldV]; exact ⟨ho, h⟩)
/-- A load whose value is said. -/
theorem RS.ldv {x : X} {b off : Nat} {k : Blk} {v : SV} (hx : x.ev e = some (.s (.ptr b off))) (hb : H.get b = some k) (ho : off < k.size) (hv : k.c off = v) (h : LS P N m D l (putD d (.s v) e) H n) : LS P N m D (⟨d, none, .ld none x⟩ :: l) e H n :=
  RS.ld1 hx hb ho (hv ▸ h)
theorem RS.ldn {x : X} {z : Nat} {b off : Nat} {k : Blk} (hx : x.ev e = some (.s (.ptr b off))) (hb : H.get b = some k) (ho : off + z ≤ k.size) (h : LS P N m D l (putD d (.arr z (fun j => k.c (off + j))) e) H n) : LS P N m D (⟨d, none, .ld (some z) x⟩ :: l) e H n :=
  LS.pv (by simp only [PV, hx, hb, ldV]; exact ⟨ho, h⟩)
theorem Ag.arr {e : Env} {a : Act} {t z : Nat} {c c' : Nat → SV} (h : Ag N (e.put t (.arr z c)) a) (hc : ∀ i, i < z → c i = c' i) : Ag N (e.put t (.arr z c')) a := by
  refine ⟨h.size, h.defers, fun u v hu => ?_⟩
  rw [Env.get_put] at hu
  split at hu
  · rename_i e1
    subst e1
    cases hu
    have := h.get t (.arr z c) (by rw [Env.get_put, if_pos rfl])
    rw [this]
    simp only [AV.conc, arrC_congr hc]
  · rename_i e1
    exact h.get u v (by rw [Env.get_put, if_neg e1]; exact hu)
theorem RS.ldc {x : X} {t z : Nat} {b off : Nat} {k : Blk} {c : Nat → SV} (hx : x.ev e = some (.s (.ptr b off))) (hb : H.get b = some k) (ho : off + z ≤ k.size) (hc : ∀ i, i < z → k.c (off + i) = c i)
    (h : LS P N m (.seq K) l (e.put t (.arr z c)) H n) : LS P N m (.seq K) (⟨some t, none, .ld (some z) x⟩ :: l) e H n := by
  refine RS.ldn hx hb ho ?_
  intro ops l' hl w0 w a Q hm hw hag hK
  exact h ops l' hl w0 w a Q hm hw (Ag.arr hag hc) hK
theorem RS.ck {x : X} {b off : Nat} (hx : x.ev e = some (.s (.ptr b off))) (h : LS P N m D l (putD d (.s (.ptr b off)) e) H n) : LS P N m D (⟨d, none, .ck x⟩ :: l) e H n :=
  LS.pv (by simp only [PV, hx]; exact h)
theorem RS.beq {x y : X} {u v : Bool} {neg : Bool} (hx : x.ev e = some (.s (.bool u))) (hy : y.ev e = some (.s (.bool v))) (h : LS P N m D l (putD d (.s (.bool (if neg then !(u == v) else (u == v)))) e) H n) : LS P N m D (⟨d, none, .beq neg x y⟩ :: l) e H n :=
  LS.pv (by simp only [PV, hx, hy]; exact h)
theorem RS.snilT {x : X} {neg : Bool} (hx : x.ev e = some (.s .nils)) (h : LS P N m D l (putD d (.s (.bool (!neg))) e) H n) : LS P N m D (⟨d, none, .snil neg x⟩ :: l) e H n :=
  LS.pv (by simp only [PV, hx]; exact h)
theorem RS.snilF {x : X} {neg : Bool} {b o len cp : Nat} (hx : x.ev e = some (.s (.slc b o len cp))) (h : LS P N m D l (putD d (.s (.bool neg)) e) H n) : LS P N m D (⟨d, none, .snil neg x⟩ :: l) e H n :=
  LS.pv (by simp only [PV, hx]; exact h)
theorem RS.inilT {x : X} {neg : Bool} (hx : x.ev e = some (.s .nilifc)) (h : LS P N m D l (putD d (.s (.bool (!neg))) e) H n) : LS P N m D (⟨d, none, .inil neg x⟩ :: l) e H n :=
  LS.pv (by simp only [PV, hx]; exact h)
theorem RS.inilF {x : X} {neg : Bool} {t : TypeId} {v : SV} (hx : x.ev e = some (.s (.ifc t v))) (h : LS P N m D l (putD d (.s (.bool neg)) e) H n) : LS P N m D (⟨d, none, .inil neg x⟩ :: l) e H n :=
  LS.pv (by simp only [PV, hx]; exact h)
theorem RS.eqa {x y : X} {neg : Bool} {k : Nat} {c c' : Nat → SV} {b : Bool} (hx : x.ev e = some (.arr k c)) (hy : y.ev e = some (.arr k c')) (hc : cInt k c c') (hb : ceq k c c' = b)
    (h : LS P N m D l (putD d (.s (.bool (if neg then !b else b))) e) H n) : LS P N m D (⟨d, none, .eqa neg k x y⟩ :: l) e H n :=
  LS.pv (by simp only [PV, hx, hy]; exact ⟨⟨trivial, trivial⟩, hc, hb ▸ h⟩)
theorem RS.not {x : X} {b : Bool} (hx : x.ev e = some (.s (.bool b))) (h : LS P N m D l (putD d (.s (.bool (!b))) e) H n) : LS P N m D (⟨d, none, .un .not x⟩ :: l) e H n :=
  LS.pv (by simp only [PV, hx]; exact h)
theorem RS.neg64 {x : X} {a : Int} (hx : x.ev e = some (.s (.int .i64 a))) (hr : -9223372036854775807 ≤ a ∧ a ≤ 9223372036854775807) (h : LS P N m D l (putD d (.s (.int .i64 (-a))) e) H n) : LS P N m D (⟨d, none, .un .neg x⟩ :: l) e H n :=
  LS.pv (by simp only [PV, hx]; rw [IntWalk.i64_in _ (by omega)]; simpa using h)
theorem RS.cv64 {x : X} {k : IntKind} {a : Int} (hx : x.ev e = some (.s (.int k a))) (hr : -9223372036854775808 ≤ a ∧ a ≤ 9223372036854775807) (h : LS P N m D l (putD d (.s (.int .i64 a)) e) H n) : LS P N m D (⟨d, none, .cv .i64 x⟩ :: l) e H n :=
  LS.pv (by simp only [PV, hx]; rw [IntWalk.i64_in _ hr]; exact h)
theorem RS.cv8 {x : X} {k : IntKind} {a : Int} (hx : x.ev e = some (.s (.int k a))) (hr : 0 ≤ a ∧ a ≤ 255) (h : LS P N m D l (putD d (.s (.int .u8 a)) e) H n) : LS P N m D (⟨d, none, .cv .u8 x⟩ :: l) e H n :=
  LS.pv (by simp only [PV, hx]; rw [IntWalk.u8_in _ hr]; exact h)
theorem RS.cvw {x : X} {k k' : IntKind} {a : Int} (hx : x.ev e = some (.s (.int k' a))) (h : LS P N m D l (putD d (.s (.int k (k.wrap a))) e) H n) : LS P N m D (⟨d, none, .cv k x⟩ :: l) e H n :=
  LS.pv (by simp only [PV, hx]; exact h)
theorem RS.fa {x : X} {off b o : Nat} (hx : x.ev e = some (.s (.ptr b o))) (h : LS P N m D l (putD d (.s (.ptr b (o + off))) e) H n) : LS P N m D (⟨d, none, .fa off x⟩ :: l) e H n :=
  LS.pv (by simp only [PV, hx]; exact h)
theorem RS.fl1 {x : X} {off k : Nat} {c : Nat → SV} (hx : x.ev e = some (.arr k c)) (ho : off < k) (h : LS P N m D l (putD d (.s (c off)) e) H n) : LS P N m D (⟨d, none, .fl off none x⟩ :: l) e H n :=
  LS.pv (by simp only [PV, hx, partV]; exact ⟨ho, h⟩)
theorem RS.fln {x : X} {off k z : Nat} {c : Nat → SV} (hx : x.ev e = some (.arr k c)) (ho : off + z ≤ k) (h : LS P N m D l (putD d (.arr z (fun j => c (off + j))) e) H n) : LS P N m D (⟨d, none, .fl off (some z) x⟩ :: l) e H n :=
  LS.pv (by simp only [PV, hx, partV]; exact ⟨ho, h⟩)
/-- An index that is a natural number. -/
theorem RS.ia {x i : X} {len sz b o j : Nat} {k : IntKind} {q : Int} (hx : x.ev e = some (.s (.ptr b o))) (hi : i.ev e = some (.s (.int k q))) (hj : q = (j : Int)) (hl : j < len)
    (h : LS P N m D l (putD d (.s (.ptr b (o + j * sz))) e) H n) : LS P N m D (⟨d, none, .ia len sz x i⟩ :: l) e H n :=
  LS.pv (by subst hj; simp only [PV, hx, hi]; exact ⟨⟨by omega, by omega⟩, h⟩)
theorem RS.isl {x i : X} {sz b o j len cp : Nat} {k : IntKind} {q : Int} (hx : x.ev e = some (.s (.slc b o len cp))) (hi : i.ev e = some (.s (.int k q))) (hj : q = (j : Int)) (hl : j < len)
    (h : LS P N m D l (putD d (.s (.ptr b (o + j * sz))) e) H n) : LS P N m D (⟨d, none, .isl sz x i⟩ :: l) e H n :=
  LS.pv (by subst hj; simp only [PV, hx, hi]; exact ⟨⟨by omega, by omega⟩, h⟩)
theorem RS.ix1 {x i : X} {len sz j z : Nat} {k : IntKind} {q : Int} {c : Nat → SV} (hx : x.ev e = some (.arr z c)) (hi : i.ev e = some (.s (.int k q))) (hj : q = (j : Int)) (hl : j < len) (ho : j * sz < z)
    (h : LS P N m D l (putD d (.s (c (j * sz))) e) H n) : LS P N m D (⟨d, none, .ix len sz none x i⟩ :: l) e H n :=
  LS.pv (by subst hj; simp only [PV, hx, hi, partV]; exact ⟨⟨by omega, by omega⟩, ho, h⟩)
theorem RS.ixn {x i : X} {len sz j z y : Nat} {k : IntKind} {q : Int} {c : Nat → SV} (hx : x.ev e = some (.arr z c)) (hi : i.ev e = some (.s (.int k q))) (hj : q = (j : Int)) (hl : j < len) (ho : j * sz + y ≤ z)
    (h : LS P N m D l (putD d (.arr y (fun i => c (j * sz + i))) e) H n) : LS P N m D (⟨d, none, .ix len sz (some y) x i⟩ :: l) e H n :=
  LS.pv (by subst hj; simp only [PV, hx, hi, partV]; exact ⟨⟨by omega, by omega⟩, ho, h⟩)
/-- The same where nothing is added to an offset, or cells are single. -/
theorem RS.ldn0 {x : X} {z b : Nat} {k : Blk} (hx : x.ev e = some (.s (.ptr b 0))) (hb : H.get b = some k) (ho : z ≤ k.size) (h : LS P N m D l (putD d (.arr z k.c) e) H n) : LS P N m D (⟨d, none, .ld (some z) x⟩ :: l) e H n :=
  RS.ldn hx hb (by omega) (by simpa only [Nat.zero_add] using h)
theorem RS.fa0 {x : X} {off b : Nat} (hx : x.ev e = some (.s (.ptr b 0))) (h : LS P N m D l (putD d (.s (.ptr b off)) e) H n) : LS P N m D (⟨d, none, .fa off x⟩ :: l) e H n :=
  RS.fa hx (by simpa only [Nat.zero_add] using h)
theorem RS.ia01 {x i : X} {len b j : Nat} {k : IntKind} {q : Int} (hx : x.ev e = some (.s (.ptr b 0))) (hi : i.ev e = some (.s (.int k q))) (hj : q = (j : Int)) (hl : j < len)
    (h : LS P N m D l (putD d (.s (.ptr b j)) e) H n) : LS P N m D (⟨d, none, .ia len 1 x i⟩ :: l) e H n :=
  RS.ia hx hi hj hl (by simpa only [Nat.zero_add, Nat.mul_one] using h)
theorem RS.ia1 {x i : X} {len b o j : Nat} {k : IntKind} {q : Int} (hx : x.ev e = some (.s (.ptr b o))) (hi : i.ev e = some (.s (.int k q))) (hj : q = (j : Int)) (hl : j < len)
    (h : LS P N m D l (putD d (.s (.ptr b (o + j))) e) H n) : LS P N m D (⟨d, none, .ia len 1 x i⟩ :: l) e H n :=
  RS.ia hx hi hj hl (by simpa only [Nat.mul_one] using h)
theorem RS.ia0 {x i : X} {len sz b j : Nat} {k : IntKind} {q : Int} (hx : x.ev e = some (.s (.ptr b 0))) (hi : i.ev e = some (.s (.int k q))) (hj : q = (j : Int)) (hl : j < len)
    (h : LS P N m D l (putD d (.s (.ptr b (sz * j))) e) H n) : LS P N m D (⟨d, none, .ia len sz x i⟩ :: l) e H n :=
  RS.ia hx hi hj hl (by simpa only [Nat.zero_add, Nat.mul_comm] using h)
theorem RS.ias {x i : X} {len sz b o j : Nat} {k : IntKind} {q : Int} (hx : x.ev e = some (.s (.ptr b o))) (hi : i.ev e = some (.s (.int k q))) (hj : q = (j : Int)) (hl : j < len)
    (h : LS P N m D l (putD d (.s (.ptr b (o + sz * j))) e) H n) : LS P N m D (⟨d, none, .ia len sz x i⟩ :: l) e H n :=
  RS.ia hx hi hj hl (by simpa only [Nat.mul_comm] using h)
theorem RS.ix11 {x i : X} {len j z : Nat} {k : IntKind} {q : Int} {c : Nat → SV} (hx : x.ev e = some (.arr z c)) (hi : i.ev e = some (.s (.int k q))) (hj : q = (j : Int)) (hl : j < len) (ho : j < z)
    (h : LS P N m D l (putD d (.s (c j)) e) H n) : LS P N m D (⟨d, none, .ix len 1 none x i⟩ :: l) e H n :=
  RS.ix1 hx hi hj hl (by omega) (by simpa only [Nat.mul_one] using h)
theorem RS.ixs {x i : X} {len sz j z y : Nat} {k : IntKind} {q : Int} {c : Nat → SV} (hx : x.ev e = some (.arr z c)) (hi : i.ev e = some (.s (.int k q))) (hj : q = (j : Int)) (hl : j < len) (ho : sz * j + y ≤ z)
    (h : LS P N m D l (putD d (.arr y (fun i => c (sz * j + i))) e) H n) : LS P N m D (⟨d, none, .ix len sz (some y) x i⟩ :: l) e H n :=
  RS.ixn hx hi hj hl (by rw [Nat.mul_comm]; exact ho) (by simpa only [Nat.mul_comm] using h)
/-- Loads from a place of which it is known what bytes stand behind it. -/
theorem LS.arr {c c' : Nat → SV} {t z : Nat} (hc : ∀ i, i < z → c i = c' i) (h : LS P N m D l (e.put t (.arr z c')) H n) : LS P N m D l (e.put t (.arr z c)) H n := by
  cases D with
  | seq K =>
    intro ops l' hl w0 w a Q hm hw hag hK
    exact h ops l' hl w0 w a Q hm hw (Ag.arr hag hc) hK
  | quiet K =>
    intro ops l' hl a Kq hag hK
    exact h ops l' hl a Kq (Ag.arr hag hc) hK
  | ord K => exact OS.same (fun a hag => Ag.arr hag hc) h
theorem RS.lda {x : X} {b off : Nat} {k : Blk} {v : SV} (hx : x.ev e = some (.s (.ptr b off))) (hb : H.get b = some k) (hv : k.c off = v) (ho : off < k.size)
    (h : LS P N m D l (putD d (.s v) e) H n) : LS P N m D (⟨d, none, .ld none x⟩ :: l) e H n :=
  RS.ld1 hx hb ho (by rw [hv]; exact h)
theorem RS.ldb {x : X} {t z z' b o q : Nat} {k : Blk} {f : Nat → Int} (hx : x.ev e = some (.s (.ptr b (o + q)))) (hb : H.get b = some k) (hk : ∀ i, i < z' → k.c (o + i) = .int .u8 (f i)) (hq : q + z ≤ z') (ho : o + z' ≤ k.size)
    (h : LS P N m D l (putD (some t) (.arr z (bys fun x => f (q + x))) e) H n) : LS P N m D (⟨some t, none, .ld (some z) x⟩ :: l) e H n := by
  refine RS.ldn hx hb (by omega) ?_
  refine LS.arr (fun i hi => ?_) h
  rw [Nat.add_assoc]; exact hk _ (by omega)
/-- Bytes that are only read. -/
theorem RS.rd1 {x : X} {z' b o q : Nat} {f : Nat → Int} (hx : x.ev e = some (.s (.ptr b (o + q)))) (hb : H.get b = none) (hk : ∀ i, i < z' → BW.cell b (o + i) = some (.int .u8 (f i))) (hq : q < z')
    (h : LS P N m D l (putD d (.s (.int .u8 (f q))) e) H n) : LS P N m D (⟨d, none, .ld none x⟩ :: l) e H n :=
  LS.pv (by simp only [PV, hx, hb, ldR]; exact ⟨_, hk q hq, h⟩)
theorem RS.rdb {x : X} {z z' b o q : Nat} {f : Nat → Int} (hx : x.ev e = some (.s (.ptr b (o + q)))) (hb : H.get b = none) (hk : ∀ i, i < z' → BW.cell b (o + i) = some (.int .u8 (f i))) (hq : q + z ≤ z')
    (h : LS P N m D l (putD d (.arr z (bys fun x => f (q + x))) e) H n) : LS P N m D (⟨d, none, .ld (some z) x⟩ :: l) e H n :=
  LS.pv (by simp only [PV, hx, hb, ldR]; exact ⟨bys fun x => f (q + x), fun i hi => by rw [Nat.add_assoc, hk _ (by omega)]; rfl, h⟩)
theorem RS.ldb0 {x : X} {t z z' b o : Nat} {k : Blk} {f : Nat → Int} (hx : x.ev e = some (.s (.ptr b o))) (hb : H.get b = some k) (hk : ∀ i, i < z' → k.c (o + i) = .int .u8 (f i)) (hq : z ≤ z') (ho : o + z' ≤ k.size)
    (h : LS P N m D l (putD (some t) (.arr z (bys f)) e) H n) : LS P N m D (⟨some t, none, .ld (some z) x⟩ :: l) e H n := by
  refine RS.ldn hx hb (by omega) ?_
  exact LS.arr (fun i hi => hk _ (by omega)) h
theorem RS.ldb1 {x : X} {z' b o q : Nat} {k : Blk} {f : Nat → Int} (hx : x.ev e = some (.s (.ptr b (o + q)))) (hb : H.get b = some k) (hk : ∀ i, i < z' → k.c (o + i) = .int .u8 (f i)) (hq : q < z') (ho : o + z' ≤ k.size)
    (h : LS P N m D l (putD d (.s (.int .u8 (f q))) e) H n) : LS P N m D (⟨d, none, .ld none x⟩ :: l) e H n :=
  RS.ld1 hx hb (by omega) (by rw [hk _ hq]; exact h)
/-- A place in a place: the first summand stays. -/
theorem RS.iaq {x i : X} {len sz b o q j : Nat} {k : IntKind} {r : Int} (hx : x.ev e = some (.s (.ptr b (o + q)))) (hi : i.ev e = some (.s (.int k r))) (hj : r = (j : Int)) (hl : j < len)
    (h : LS P N m D l (putD d (.s (.ptr b (o + (q + sz * j)))) e) H n) : LS P N m D (⟨d, none, .ia len sz x i⟩ :: l) e H n :=
  RS.ia hx hi hj hl (by rw [Nat.add_assoc, Nat.mul_comm]; exact h)
theorem RS.iaq1 {x i : X} {len b o q j : Nat} {k : IntKind} {r : Int} (hx : x.ev e = some (.s (.ptr b (o + q)))) (hi : i.ev e = some (.s (.int k r))) (hj : r = (j : Int)) (hl : j < len)
    (h : LS P N m D l (putD d (.s (.ptr b (o + (q + j)))) e) H n) : LS P N m D (⟨d, none, .ia len 1 x i⟩ :: l) e H n :=
  RS.ia hx hi hj hl (by rw [Nat.mul_one, Nat.add_assoc]; exact h)

/-- Arrays of bytes, compared. -/
theorem RS.eqb {x y : X} {neg : Bool} {k : Nat} {f g : Nat → Int} {c c' : Nat → SV} (hx : x.ev e = some (.arr k c)) (hy : y.ev e = some (.arr k c')) (hc : c = fun i => .int .u8 (f i)) (hc' : c' = fun i => .int .u8 (g i))
    (h : LS P N m D l (putD d (.s (.bool (if neg then !tb (∀ i, i < k → f i = g i) else tb (∀ i, i < k → f i = g i)))) e) H n) : LS P N m D (⟨d, none, .eqa neg k x y⟩ :: l) e H n := by
  subst hc; subst hc'
  refine RS.eqa hx hy (fun i _ => ⟨_, _, _, rfl, rfl⟩) ?_ h
  by_cases hh : ∀ i, i < k → f i = g i
  · rw [tb_true hh]; simpa [ceq] using hh
  · rw [tb_false hh]
    rw [Bool.eq_false_iff]
    intro h2
    exact hh (by simpa [ceq] using h2)

theorem RS.eqbT {x y : X} {k : Nat} {f g : Nat → Int} {c c' : Nat → SV} (hx : x.ev e = some (.arr k c)) (hy : y.ev e = some (.arr k c')) (hc : c = fun i => .int .u8 (f i)) (hc' : c' = fun i => .int .u8 (g i))
    (h : LS P N m D l (putD d (.s (.bool (!tb (∀ i, i < k → f i = g i)))) e) H n) : LS P N m D (⟨d, none, .eqa true k x y⟩ :: l) e H n := RS.eqb hx hy hc hc' h
theorem RS.eqbF {x y : X} {k : Nat} {f g : Nat → Int} {c c' : Nat → SV} (hx : x.ev e = some (.arr k c)) (hy : y.ev e = some (.arr k c')) (hc : c = fun i => .int .u8 (f i)) (hc' : c' = fun i => .int .u8 (g i))
    (h : LS P N m D l (putD d (.s (.bool (tb (∀ i, i < k → f i = g i)))) e) H n) : LS P N m D (⟨d, none, .eqa false k x y⟩ :: l) e H n := RS.eqb hx hy hc hc' h

theorem RS.ex {x : X} {k : Nat} {r : List AV} {v : AV} (hx : x.ev e = some (.tup r)) (hv : r[k]? = some v) (h : LS P N m D l (putD d v e) H n) : LS P N m D (⟨d, none, .ex x k⟩ :: l) e H n :=
  LS.pv (by simp only [PV, hx, hv]; exact h)
theorem RS.mkf {f : FuncId} {pre post : List X} {a b : List SV} (h1 : svs e pre = some a) (h2 : svs e post = some b) (h : LS P N m D l (putD d (.s (.fn f a b)) e) H n) : LS P N m D (⟨d, none, .mkf f pre post⟩ :: l) e H n :=
  LS.pv (by simp only [PV, h1, h2]; exact h)
theorem RS.len {x : X} {b o len cp : Nat} (hx : x.ev e = some (.s (.slc b o len cp))) (h : LS P N m D l (putD d (.s (.int .i64 len)) e) H n) : LS P N m D (⟨d, none, .len x⟩ :: l) e H n :=
  LS.pv (by simp only [PV, hx]; exact h)
theorem RS.len0 {x : X} (hx : x.ev e = some (.s .nils)) (h : LS P N m D l (putD d (.s (.int .i64 0)) e) H n) : LS P N m D (⟨d, none, .len x⟩ :: l) e H n :=
  LS.pv (by simp only [PV, hx]; exact h)
theorem RS.lens {x : X} {s : ByteArray} (hx : x.ev e = some (.s (.str s))) (h : LS P N m D l (putD d (.s (.int .i64 s.size)) e) H n) : LS P N m D (⟨d, none, .lens x⟩ :: l) e H n :=
  LS.pv (by simp only [PV, hx]; exact h)
theorem RS.lenc {k : Nat} (h : LS P N m D l (putD d (.s (.int .i64 k)) e) H n) : LS P N m D (⟨d, none, .lenc k⟩ :: l) e H n :=
  LS.pv (by simp only [PV]; exact h)
theorem RS.mm {top : Bool} {x y : X} {k k2 : IntKind} {a b : Int} (hx : x.ev e = some (.s (.int k a))) (hy : y.ev e = some (.s (.int k2 b))) (h : LS P N m D l (putD d (.s (.int k (if top then (if b > a then b else a) else (if b < a then b else a)))) e) H n) : LS P N m D (⟨d, none, .mm top x y⟩ :: l) e H n :=
  LS.pv (by simp only [PV, hx, hy]; exact h)
/-- A whole array as a slice. -/
theorem RS.slaAll {x : X} {len sz b o : Nat} (hx : x.ev e = some (.s (.ptr b o))) (hl : 0 < len) (h : LS P N m D l (putD d (.s (.slc b o len len)) e) H n) : LS P N m D (⟨d, none, .sla len sz x none none none⟩ :: l) e H n :=
  LS.pv (by simp only [PV, hx, bndV]; exact ⟨by simp, by rw [if_neg (by omega)]; simpa using h⟩)
theorem RS.slaTo {x hi : X} {len sz b o j : Nat} {k : IntKind} {q : Int} (hx : x.ev e = some (.s (.ptr b o))) (hi' : hi.ev e = some (.s (.int k q))) (hj : q = (j : Int)) (hjl : j ≤ len) (hl : 0 < len)
    (h : LS P N m D l (putD d (.s (.slc b o j len)) e) H n) : LS P N m D (⟨d, none, .sla len sz x none (some hi) none⟩ :: l) e H n :=
  LS.pv (by subst hj; simp only [PV, hx, bndV, hi']; exact ⟨by omega, by simp, by rw [if_neg (by omega)]; simpa using h⟩)
theorem RS.slsTo {x hi : X} {len cp sz b o j : Nat} {k : IntKind} {q : Int} (hx : x.ev e = some (.s (.slc b o len cp))) (hi' : hi.ev e = some (.s (.int k q))) (hj : q = (j : Int)) (hjl : j ≤ cp)
    (h : LS P N m D l (putD d (.s (.slc b o j cp)) e) H n) : LS P N m D (⟨d, none, .sls sz x none (some hi) none⟩ :: l) e H n :=
  LS.pv (by subst hj; simp only [PV, hx, bndV, hi']; refine ⟨by omega, by simp, ?_⟩; have : (if cp = 0 then o else o + 0 * sz) = o := by split <;> simp
            rw [this]; simpa using h)
theorem RS.slsFrom {x lo : X} {len cp sz b o j : Nat} {k : IntKind} {q : Int} (hx : x.ev e = some (.s (.slc b o len cp))) (hi' : lo.ev e = some (.s (.int k q))) (hj : q = (j : Int)) (hjl : j ≤ len)
    (h : LS P N m D l (putD d (.s (.slc b (if cp = j then o else o + j * sz) (len - j) (cp - j))) e) H n) : LS P N m D (⟨d, none, .sls sz x (some lo) none none⟩ :: l) e H n :=
  LS.pv (by subst hj; simp only [PV, hx, bndV, hi']; exact ⟨by simp, by omega, by simpa using h⟩)
theorem RS.s2a {x : X} {k b o len cp : Nat} (hx : x.ev e = some (.s (.slc b o len cp))) (hl : k ≤ len) (h : LS P N m D l (putD d (.s (.ptr b o)) e) H n) : LS P N m D (⟨d, none, .s2a k x⟩ :: l) e H n :=
  LS.pv (by simp only [PV, hx]; exact ⟨hl, h⟩)

theorem RS.bin {op : BinOp} {x y : X} {u v : SV} (hx : x.ev e = some (.s u)) (hy : y.ev e = some (.s v)) (h : binS op u v fun r => LS P N m D l (putD d (.s r) e) H n) : LS P N m D (⟨d, none, .bin op x y⟩ :: l) e H n :=
  LS.pv (by simp only [PV, hx, hy]; exact h)
theorem RS.add {x y : X} {a b : Int} (hx : x.ev e = some (.s (.int .i64 a))) (hy : y.ev e = some (.s (.int .i64 b))) (hr : -9223372036854775808 ≤ a + b ∧ a + b ≤ 9223372036854775807)
    (h : LS P N m D l (putD d (.s (.int .i64 (a + b))) e) H n) : LS P N m D (⟨d, none, .bin .add x y⟩ :: l) e H n :=
  RS.bin hx hy (by simp only [binS, binI]; rw [IntWalk.i64_in _ hr]; exact ⟨trivial, h⟩)
theorem RS.sub {x y : X} {a b : Int} (hx : x.ev e = some (.s (.int .i64 a))) (hy : y.ev e = some (.s (.int .i64 b))) (hr : -9223372036854775808 ≤ a - b ∧ a - b ≤ 9223372036854775807)
    (h : LS P N m D l (putD d (.s (.int .i64 (a - b))) e) H n) : LS P N m D (⟨d, none, .bin .sub x y⟩ :: l) e H n :=
  RS.bin hx hy (by simp only [binS, binI]; rw [IntWalk.i64_in _ hr]; exact ⟨trivial, h⟩)
theorem RS.mul {x y : X} {a b : Int} (hx : x.ev e = some (.s (.int .i64 a))) (hy : y.ev e = some (.s (.int .i64 b))) (hr : -9223372036854775808 ≤ a * b ∧ a * b ≤ 9223372036854775807)
    (h : LS P N m D l (putD d (.s (.int .i64 (a * b))) e) H n) : LS P N m D (⟨d, none, .bin .mul x y⟩ :: l) e H n :=
  RS.bin hx hy (by simp only [binS, binI]; rw [IntWalk.i64_in _ hr]; exact ⟨trivial, h⟩)
theorem RS.rem {x y : X} {k : IntKind} {a b : Int} (hx : x.ev e = some (.s (.int k a))) (hy : y.ev e = some (.s (.int k b))) (ha : 0 ≤ a) (hb : 0 < b)
    (h : LS P N m D l (putD d (.s (.int k (a % b))) e) H n) : LS P N m D (⟨d, none, .bin .rem x y⟩ :: l) e H n :=
  RS.bin hx hy (by simp only [binS, binI]; rw [Int.tmod_eq_emod_of_nonneg ha]; exact ⟨trivial, by omega, h⟩)
theorem RS.remt {x y : X} {k : IntKind} {a b : Int} (hx : x.ev e = some (.s (.int k a))) (hy : y.ev e = some (.s (.int k b))) (hb : b ≠ 0)
    (h : LS P N m D l (putD d (.s (.int k (a.tmod b))) e) H n) : LS P N m D (⟨d, none, .bin .rem x y⟩ :: l) e H n :=
  RS.bin hx hy (by simp only [binS, binI]; exact ⟨trivial, hb, h⟩)
theorem RS.quo {x y : X} {a b : Int} (hx : x.ev e = some (.s (.int .i64 a))) (hy : y.ev e = some (.s (.int .i64 b))) (ha : 0 ≤ a ∧ a ≤ 9223372036854775807 ∧ 1 ≤ b)
    (h : LS P N m D l (putD d (.s (.int .i64 (a / b))) e) H n) : LS P N m D (⟨d, none, .bin .quo x y⟩ :: l) e H n :=
  RS.bin hx hy (by simp only [binS, binI]; rw [IntWalk.i64_quo _ _ ha]; exact ⟨trivial, by omega, h⟩)
theorem RS.eql {x y : X} {k : IntKind} {a b : Int} (hx : x.ev e = some (.s (.int k a))) (hy : y.ev e = some (.s (.int k b))) (h : LS P N m D l (putD d (.s (.bool (a == b))) e) H n) : LS P N m D (⟨d, none, .bin .eql x y⟩ :: l) e H n :=
  RS.bin hx hy ⟨rfl, h⟩
theorem RS.neq {x y : X} {k : IntKind} {a b : Int} (hx : x.ev e = some (.s (.int k a))) (hy : y.ev e = some (.s (.int k b))) (h : LS P N m D l (putD d (.s (.bool (a != b))) e) H n) : LS P N m D (⟨d, none, .bin .neq x y⟩ :: l) e H n :=
  RS.bin hx hy ⟨rfl, h⟩
theorem RS.lss {x y : X} {k : IntKind} {a b : Int} (hx : x.ev e = some (.s (.int k a))) (hy : y.ev e = some (.s (.int k b))) (h : LS P N m D l (putD d (.s (.bool (decide (a < b)))) e) H n) : LS P N m D (⟨d, none, .bin .lss x y⟩ :: l) e H n :=
  RS.bin hx hy ⟨rfl, h⟩
theorem RS.leq {x y : X} {k : IntKind} {a b : Int} (hx : x.ev e = some (.s (.int k a))) (hy : y.ev e = some (.s (.int k b))) (h : LS P N m D l (putD d (.s (.bool (decide (a ≤ b)))) e) H n) : LS P N m D (⟨d, none, .bin .leq x y⟩ :: l) e H n :=
  RS.bin hx hy ⟨rfl, h⟩
theorem RS.gtr {x y : X} {k : IntKind} {a b : Int} (hx : x.ev e = some (.s (.int k a))) (hy : y.ev e = some (.s (.int k b))) (h : LS P N m D l (putD d (.s (.bool (decide (b < a)))) e) H n) : LS P N m D (⟨d, none, .bin .gtr x y⟩ :: l) e H n :=
  RS.bin hx hy ⟨rfl, h⟩
theorem RS.geq {x y : X} {k : IntKind} {a b : Int} (hx : x.ev e = some (.s (.int k a))) (hy : y.ev e = some (.s (.int k b))) (h : LS P N m D l (putD d (.s (.bool (decide (b ≤ a)))) e) H n) : LS P N m D (⟨d, none, .bin .geq x y⟩ :: l) e H n :=
  RS.bin hx hy ⟨rfl, h⟩

theorem RS.new {t : TypeId} {z : Zs} (h : LS P N m (.seq K) l (putD d (.s (.ptr n 0)) e) ((n, ⟨z.size, z.c, t⟩) :: H) (n + 1)) : LS P N m (.seq K) (⟨d, none, .new t z⟩ :: l) e H n := RS.step trivial (IS.new h)
theorem RS.box {t : TypeId} {x : X} {v : AV} {k : Blk} (hx : x.ev e = some v) (hk : boxK t v = some k) (h : LS P N m (.seq K) l (putD d (.s (.ptr n 0)) e) ((n, k) :: H) (n + 1)) : LS P N m (.seq K) (⟨d, none, .box t x⟩ :: l) e H n :=
  RS.step trivial (IS.box hx hk h)
theorem RS.bsl {t : TypeId} {len sz : Nat} {z : Zs} {ps : List (Nat × Nat × X)} {c : Nat → SV} (hp : placeAll e ps (fun i => z.c (i % sz)) = some c)
    (h : LS P N m (.seq K) l (putD d (.s (.slc n 0 len len)) e) ((n, ⟨len * sz, c, t⟩) :: H) (n + 1)) : LS P N m (.seq K) (⟨d, none, .bsl t len sz z ps⟩ :: l) e H n := RS.step trivial (IS.bsl hp h)
theorem RS.st1 {x y : X} {b off : Nat} {k : Blk} {v : SV} (hx : x.ev e = some (.s (.ptr b off))) (hy : y.ev e = some (.s v)) (hb : H.get b = some k) (ho : off < k.size)
    (h : LS P N m (.seq K) l e (H.set b (put1 k.c off v)) n) : LS P N m (.seq K) (⟨none, none, .st 1 x y⟩ :: l) e H n :=
  RS.step trivial (IS.st hx hy hb ⟨⟨rfl, ho⟩, h⟩)
theorem RS.stn {z : Nat} {x y : X} {b off : Nat} {k : Blk} {c : Nat → SV} (hx : x.ev e = some (.s (.ptr b off))) (hy : y.ev e = some (.arr z c)) (hb : H.get b = some k) (ho : off + z ≤ k.size)
    (h : LS P N m (.seq K) l e (H.set b (splice k.c off z c)) n) : LS P N m (.seq K) (⟨none, none, .st z x y⟩ :: l) e H n :=
  RS.step trivial (IS.st hx hy hb ⟨⟨rfl, ho⟩, h⟩)
/-- A memory said in other words, or less of it. -/
theorem LS.hpd {H1 : Hp} (hd : Drops m H H1) (h : LS P N m (.seq K) l e H1 n) : LS P N m (.seq K) l e H n := by
  intro ops l' hl w0 w a Q hm hw hag hK
  exact h ops l' hl w0 w a Q hm (hw.drops hm hd) hag hK
/-- A store that fills its block. -/
theorem RS.stw {z : Nat} {x y : X} {b : Nat} {k : Blk} {c : Nat → SV} {H1 : Hp} (hx : x.ev e = some (.s (.ptr b 0))) (hy : y.ev e = some (.arr z c)) (hb : H.get b = some k) (ho : k.size = z) (hs : H.set b c = H1)
    (h : LS P N m (.seq K) l e H1 n) : LS P N m (.seq K) (⟨none, none, .st z x y⟩ :: l) e H n := by
  refine RS.stn hx hy hb (by omega) ?_
  refine LS.hpd (H1 := H.set b c) (Drops.setc hb fun i hi => ?_) (hs ▸ h)
  unfold splice
  rw [if_pos (by omega)]
  simp
theorem RS.st1s {x y : X} {b off : Nat} {k : Blk} {v : SV} {H1 : Hp} (hx : x.ev e = some (.s (.ptr b off))) (hy : y.ev e = some (.s v)) (hb : H.get b = some k) (ho : off < k.size) (hs : H.set b (put1 k.c off v) = H1)
    (h : LS P N m (.seq K) l e H1 n) : LS P N m (.seq K) (⟨none, none, .st 1 x y⟩ :: l) e H n := RS.st1 hx hy hb ho (hs ▸ h)
theorem RS.stns {z : Nat} {x y : X} {b off : Nat} {k : Blk} {c : Nat → SV} {H1 : Hp} (hx : x.ev e = some (.s (.ptr b off))) (hy : y.ev e = some (.arr z c)) (hb : H.get b = some k) (ho : off + z ≤ k.size) (hs : H.set b (splice k.c off z c) = H1)
    (h : LS P N m (.seq K) l e H1 n) : LS P N m (.seq K) (⟨none, none, .st z x y⟩ :: l) e H n := RS.stn hx hy hb ho (hs ▸ h)

theorem RS.call {f : FuncId} {args : List X} {vs : List AV} (hv : evs e args = some vs) (h : FnS P f vs H n fun v H' n' => LS P N m (.seq K) l (putD d v e) H' n') : LS P N m (.seq K) (⟨d, none, .call f args⟩ :: l) e H n :=
  RS.step trivial (IS.call hv h)
theorem RS.callv {f : FuncId} {pre post : List SV} {x : X} {args : List X} {vs : List AV} (hx : x.ev e = some (.s (.fn f pre post))) (hv : evs e args = some vs)
    (h : FnS P f (pre.map .s ++ vs ++ post.map .s) H n fun v H' n' => LS P N m (.seq K) l (putD d v e) H' n') : LS P N m (.seq K) (⟨d, none, .callv x args⟩ :: l) e H n :=
  RS.step trivial (IS.callv hx hv h)

/-! ### Conditions -/
variable {Q : Ex → Env → Hp → Nat → Prop} {c c' : Cd} {x : X}
theorem CS.condT (hx : x.ev e = some (.s (.bool true))) (h1 : CS P N m c e H n Q) : CS P N m (.cond x c c') e H n Q := CS.cond hx (fun _ => h1) (fun h => by cases h)
theorem CS.condF (hx : x.ev e = some (.s (.bool false))) (h1 : CS P N m c' e H n Q) : CS P N m (.cond x c c') e H n Q := CS.cond hx (fun h => by cases h) (fun _ => h1)
theorem CS.condP {p : Prop} [Decidable p] (hx : x.ev e = some (.s (.bool (decide p)))) (h1 : p → CS P N m c e H n Q) (h2 : ¬ p → CS P N m c' e H n Q) : CS P N m (.cond x c c') e H n Q :=
  CS.cond hx (fun h => h1 (by simpa using h)) (fun h => h2 (by simpa using h))
theorem CS.condPn {p : Prop} [Decidable p] (hx : x.ev e = some (.s (.bool (!decide p)))) (h1 : ¬ p → CS P N m c e H n Q) (h2 : p → CS P N m c' e H n Q) : CS P N m (.cond x c c') e H n Q :=
  CS.cond hx (fun h => h1 (by simpa using h)) (fun h => h2 (by simpa using h))
theorem CS.condTb {q : Prop} (hx : x.ev e = some (.s (.bool (tb q)))) (h1 : q → CS P N m c e H n Q) (h2 : ¬ q → CS P N m c' e H n Q) : CS P N m (.cond x c c') e H n Q :=
  CS.cond hx (fun h => h1 (tb_eq.1 h)) (fun h => h2 (tb_eqF.1 h))
theorem CS.condTn {q : Prop} (hx : x.ev e = some (.s (.bool (!tb q)))) (h1 : ¬ q → CS P N m c e H n Q) (h2 : q → CS P N m c' e H n Q) : CS P N m (.cond x c c') e H n Q :=
  CS.cond hx (fun h => h1 (tb_eqF.1 (by simpa using h))) (fun h => h2 (tb_eq.1 (by simpa using h)))
theorem CS.condE {a b : Int} (hx : x.ev e = some (.s (.bool (a == b)))) (h1 : a = b → CS P N m c e H n Q) (h2 : a ≠ b → CS P N m c' e H n Q) : CS P N m (.cond x c c') e H n Q :=
  CS.cond hx (fun h => h1 (by simpa using h)) (fun h => h2 (by simpa using h))
theorem CS.condN {a b : Int} (hx : x.ev e = some (.s (.bool (a != b)))) (h1 : a ≠ b → CS P N m c e H n Q) (h2 : a = b → CS P N m c' e H n Q) : CS P N m (.cond x c c') e H n Q :=
  CS.cond hx (fun h => h1 (by simpa using h)) (fun h => h2 (by simpa using h))

theorem CS.regL {l : List Ins} (h : LS P N m (.seq (Q .normal)) l e H n) : CS P N m (.reg l) e H n Q := CS.reg h
theorem CS.quietL {ks : List Nat} {l : List Ins} (h : LS P N m (.quiet fun e' => ∀ n', n ≤ n' → Q .normal e' H n') l e H n) : CS P N m (.drw true ks l) e H n Q := CS.quiet h
theorem CS.tailL {q : Bool} {ks : List Nat} {l : List Ins} (k : Nat) (hk : k ∈ ks) (h : LS P N m (.quiet fun e' => ∀ n', n ≤ n' → LS P N m (.seq (Q .normal)) (l.drop k) e' H n') (l.take k) e H n) : CS P N m (.drw q ks l) e H n Q := CS.tail k hk h

theorem CS.ordL {q : Bool} {ks os : List Nat} {l : List Ins} (h : LS P N m (.ord fun e2 H2 => ∀ n', n ≤ n' → (∀ b k, H2.get b = some k → b < n') → Q .normal e2 H2 n') (pick os l) e H n) : CS P N m (.drwo q ks os l) e H n Q := CS.ord h
theorem CS.quietLo {ks os : List Nat} {l : List Ins} (h : LS P N m (.quiet fun e' => ∀ n', n ≤ n' → Q .normal e' H n') l e H n) : CS P N m (.drwo true ks os l) e H n Q := CS.quieto h
theorem CS.tailLo {q : Bool} {ks os : List Nat} {l : List Ins} (k : Nat) (hk : k ∈ ks) (h : LS P N m (.quiet fun e' => ∀ n', n ≤ n' → LS P N m (.seq (Q .normal)) (l.drop k) e' H n') (l.take k) e H n) : CS P N m (.drwo q ks os l) e H n Q := CS.tailo k hk h
theorem CS.mixL {q es : List Ins} (h : LS P N m (.quiet fun e1 => MS P N m H n es e1 H fun e2 H2 => ∀ n', n ≤ n' → (∀ b k, H2.get b = some k → b < n') → Q .normal e2 H2 n') q e H n) : CS P N m (.mix q es) e H n Q := CS.mix h
/-- What is left of a tree of orders of effects. -/
structure MTW (P : Program) (N m : Nat) (F : Hp) (n : Nat) (l : List Ins) (t : OT) (e : Env) (Hc : Hp) (K : Env → Hp → Prop) : Prop where
  h : MT P N m F n l t e Hc K
theorem MTW.done {F Hc : Hp} {ll : List Ins} {K : Env → Hp → Prop} (h : K e Hc) : MTW P N m F n ll .done e Hc K := ⟨MT.done h⟩
theorem MTW.fork {F Hc : Hp} {ll : List Ins} {t1 t2 : OT} {K : Env → Hp → Prop} (h1 : MTW P N m F n ll t1 e Hc K) (h2 : MTW P N m F n ll t2 e Hc K) : MTW P N m F n ll (.fork t1 t2) e Hc K := ⟨MT.fork h1.h h2.h⟩
theorem MTW.seg {F Hc : Hp} {ll : List Ins} {t : OT} {K : Env → Hp → Prop} (h : MS P N m F n (pick t.os ll) e Hc fun e' Hc' => MTW P N m F n ll t.rest e' Hc' K) : MTW P N m F n ll t e Hc K := by
  have e0 : (fun e' H' => MTW P N m F n ll t.rest e' H' K) = fun e' H' => MT P N m F n ll t.rest e' H' K := by
    funext e' H'
    exact propext ⟨fun q => q.h, fun q => ⟨q⟩⟩
  rw [e0] at h
  exact ⟨MT.seg h⟩
theorem CS.mixtL {q1 q2 ll : List Ins} {t : OT} (F : Hp) (hF : Ext F H) (h : LS P N m (.quiet fun e1 => LS P N m (.quiet fun e2 => MTW P N m F n ll t e2 H fun e3 H3 => ∀ n', n ≤ n' → (∀ b k, H3.get b = some k → b < n') → Q .normal e3 H3 n') q2 e1 F n) q1 e H n) : CS P N m (.mixt q1 q2 ll t) e H n Q := by
  have e0 : (fun e2 => MTW P N m F n ll t e2 H fun e3 H3 => ∀ n', n ≤ n' → (∀ b k, H3.get b = some k → b < n') → Q .normal e3 H3 n') = fun e2 => MT P N m F n ll t e2 H fun e3 H3 => ∀ n', n ≤ n' → (∀ b k, H3.get b = some k → b < n') → Q .normal e3 H3 n' := by
    funext e2
    exact propext ⟨fun q => q.h, fun q => ⟨q⟩⟩
  rw [e0] at h
  exact CS.mixt hF h
theorem MTW.fin {F Hc : Hp} {ll : List Ins} (h : (∀ n', n ≤ n' → (∀ b k, Hc.get b = some k → b < n') → Q .normal e Hc n')) : MTW P N m F n ll .done e Hc fun e3 H3 => ∀ n', n ≤ n' → (∀ b k, H3.get b = some k → b < n') → Q .normal e3 H3 n' := MTW.done h
theorem MS.mov {Hs Hc : Hp} {x : X} {v : AV} {K : Env → Hp → Prop} (hx : x.ev e = some v) (h : MS P N m Hs n l (putD d v e) Hc K) : MS P N m Hs n (⟨d, none, .mov x⟩ :: l) e Hc K :=
  MS.pv (by simp only [PV, hx]; exact h)
theorem MS.stw {Hs Hc : Hp} {z : Nat} {x y : X} {b : Nat} {k : Blk} {c : Nat → SV} {H1 : Hp} {K : Env → Hp → Prop} (hx : x.ev e = some (.s (.ptr b 0))) (hy : y.ev e = some (.arr z c)) (hb : Hc.get b = some k) (ho : k.size = z) (hnb : n ≤ b) (hs : Hc.set b c = H1)
    (h : MS P N m Hs n l e H1 K) : MS P N m Hs n (⟨none, none, .st z x y⟩ :: l) e Hc K := MS.stx hx hy hb (by omega) hnb (fun i hi => by unfold splice; rw [if_pos (by omega)]; simp) (hs ▸ h)
theorem MS.sts {Hs Hc : Hp} {z : Nat} {x y : X} {b off : Nat} {k : Blk} {c : Nat → SV} {H1 : Hp} {K : Env → Hp → Prop} (hx : x.ev e = some (.s (.ptr b off))) (hy : y.ev e = some (.arr z c)) (hb : Hc.get b = some k) (ho : off + z ≤ k.size) (hnb : n ≤ b) (hs : Hc.set b (splice k.c off z c) = H1)
    (h : MS P N m Hs n l e H1 K) : MS P N m Hs n (⟨none, none, .st z x y⟩ :: l) e Hc K := MS.st hx hy hb ho hnb (hs ▸ h)

theorem CS.hpd {H1 : Hp} (hd : Drops m H H1) (h : CS P N m c e H1 n Q) : CS P N m c e H n Q := by
  intro code hc w0 w a Q' hm hw hag hQ
  exact h code hc w0 w a Q' hm (hw.drops hm hd) hag hQ
theorem fld_conc {c : Nat → SV} {p q : Int} (h0 : c 0 = .int .i64 p) (h1 : c 1 = .int .i64 q) : ∀ i, i < 2 → c i = (match i with | 0 => .int .i64 p | _ => .int .i64 q) := by
  intro i hi
  match i, hi with
  | 0, _ => exact h0
  | 1, _ => exact h1
theorem CS.env {e1 : Env} (h : e = e1) (h2 : CS P N m c e1 H n Q) : CS P N m c e H n Q := h ▸ h2
theorem CS.hp {H1 : Hp} (h : H = H1) (h2 : CS P N m c e H1 n Q) : CS P N m c e H n Q := h ▸ h2
theorem RS.hp {H1 : Hp} (h : H = H1) (h2 : LS P N m D l e H1 n) : LS P N m D l e H n := h ▸ h2

/-- A loop of at most cnt rounds: behind i of them the frame is E i and the memory M i, and J i holds. -/
theorem CS.iter (cnt : Nat) (E : Nat → Env) (M : Nat → Hp) (J : Nat → Prop) (hE : EnvLe (E 0) e) (hM : Drops m H (M 0)) (hJ : J 0)
    (h : ∀ i n', i ≤ cnt → n ≤ n' → J i → CS P N m c (E i) (M i) n' (Ex.then (fun e' H' n'' => i < cnt ∧ EnvLe (E (i + 1)) e' ∧ Drops m H' (M (i + 1)) ∧ J (i + 1)) Q)) :
    CS P N m (.loop c) e H n Q := by
  refine CS.weak hE hM ?_
  refine CS.loop (fun k e H n' => ∃ i, i ≤ cnt ∧ k = cnt - i ∧ e = E i ∧ H = M i ∧ J i) cnt ⟨0, Nat.zero_le _, by omega, rfl, rfl, hJ⟩ ?_
  rintro k e H n' hn ⟨i, hi, rfl, rfl, rfl, hJi⟩
  refine (h i n' hi hn hJi).mono fun x e' H' n'' hn' hx => ?_
  cases x with
  | normal =>
    obtain ⟨h1, h2, h3, h4⟩ := hx
    exact ⟨cnt - (i + 1), E (i + 1), M (i + 1), by omega, h2, h3, i + 1, by omega, rfl, rfl, rfl, h4⟩
  | exit id => exact hx
  | ret => exact hx

theorem resK.tmp {K : List AV → Prop} {r : List R1} {t : Nat} {v : AV} (hg : e.get t = some v) (h : resK e H r fun q => K (v :: q)) : resK e H (.tmp t :: r) K := by
  simp only [resK, hg]; exact h
theorem resK.c1 {K : List AV → Prop} {r : List R1} {t b off : Nat} {k : Blk} (hg : e.get t = some (.s (.ptr b off))) (hb : H.get b = some k) (ho : off < k.size) (h : resK e H r fun q => K (.s (k.c off) :: q)) : resK e H (.cell none t :: r) K := by
  simp only [resK, hg, hb, ldV]; exact ⟨ho, h⟩
theorem resK.cn {K : List AV → Prop} {r : List R1} {t z b off : Nat} {k : Blk} (hg : e.get t = some (.s (.ptr b off))) (hb : H.get b = some k) (ho : off + z ≤ k.size) (h : resK e H r fun q => K (.arr z (fun j => k.c (off + j)) :: q)) : resK e H (.cell (some z) t :: r) K := by
  simp only [resK, hg, hb, ldV]; exact ⟨ho, h⟩
theorem resK.nil {K : List AV → Prop} (h : K []) : resK e H [] K := h

end
end Go.V
