/- Quotients of modules, the program's. -/
import Derived.Test.YtkmfdhicjaccaaaGreatJbn
import Derived.Test.YtkmfdhicjaccaaaGreatJbp
import Derived.Test.YtkmfdhicjaccaaaGreatJbs
set_option linter.unusedSectionVars false
set_option linter.unusedVariables false
set_option linter.unusedSimpArgs false

namespace Go.V

variable [BW]

set_option linter.unusedSimpArgs false

set_option linter.unusedVariables false

open Classical in

/-- The reduced list of the space of a list. -/
noncomputable def rdA (p : Int) (L : Nat → Nat → Int) (k : Nat) : (Nat → Nat → Int) × Nat × (Nat → Nat) :=
  if h : ∃ x : (Nat → Nat → Int) × Nat × (Nat → Nat), RR p x.1 x.2.1 x.2.2 ∧ Go.V.same p x.1 x.2.1 L k then Classical.choose h else (fun _ _ => 0, 0, fun _ => 0)

theorem rdA_is {p : Int} {L A : Nat → Nat → Int} {k m : Nat} {P : Nat → Nat} (hp : 2 ≤ p) (hRR : RR p A m P) (hs : Go.V.same p A m L k) :
    ∃ A1 P1, rdA p L k = (A1, m, P1) ∧ RR p A1 m P1 ∧ Go.V.same p A1 m L k ∧ ∀ i x, i < m → x < 8 → A i x = A1 i x := by
  have h : ∃ x : (Nat → Nat → Int) × Nat × (Nat → Nat), RR p x.1 x.2.1 x.2.2 ∧ Go.V.same p x.1 x.2.1 L k := ⟨(A, m, P), hRR, hs⟩
  have hc := Classical.choose_spec h
  have e : rdA p L k = Classical.choose h := by unfold rdA; rw [dif_pos h]
  rw [e]
  generalize Classical.choose h = x at hc
  obtain ⟨A1, m1, P1⟩ := x
  obtain ⟨h1, h2⟩ := hc
  obtain ⟨rfl, e1⟩ := hRR.same hp h1 (same_trans hs (same_symm h2))
  exact ⟨A1, P1, rfl, h1, h2, fun i x hi hx => (e1 i hi).2 x hx⟩

/-- 1 if Q does not hold, else 5 if R does not. -/
noncomputable def k5 (Q R : Prop) : Int := if tb Q = true then if tb R = true then 0 else 5 else 1

theorem k5_1 {Q R : Prop} (h : ¬Q) : k5 Q R = 1 := by unfold k5; rw [tb_false h]; rfl

theorem k5_5 {Q R : Prop} (h : Q) (g : ¬R) : k5 Q R = 5 := by unfold k5; rw [tb_true h, tb_false g]; rfl

theorem k5_0 {Q R : Prop} (h : Q) (g : R) : k5 Q R = 0 := by unfold k5; rw [tb_true h, tb_true g]; rfl

/-- The cells of a module. -/
def modC (d : Int) (t : Nat → Int) (q : Nat) : SV := if q = 0 then .int .i64 d else .int .u8 (t (q - 1))

theorem modC_row {d : Int} {t t' r : Nat → Int} {D : Nat} (h : ∀ q, splice (bys t) D 8 (bys r) q = bys t' q) (q : Nat) : splice (modC d t) (1 + D) 8 (bys r) q = modC d t' q := by
  by_cases e : q = 0
  · subst e; unfold splice modC; rw [if_neg (by omega), if_pos rfl, if_pos rfl]
  · have e2 := h (q - 1)
    unfold splice bys at e2
    unfold splice modC bys
    rw [if_neg e, if_neg e, ← e2]
    by_cases e5 : 1 + D ≤ q ∧ q < 1 + D + 8
    · rw [if_pos e5, if_pos (by omega), show q - 1 - D = q - (1 + D) by omega]
    · rw [if_neg e5, if_neg (by omega)]

/-- The first n cells of a table. -/
def cto (Y : Nat → Int) (n : Nat) : Nat → Int := fun q => if q < n then Y q else 0

theorem cto_zero (Y : Nat → Int) : cto Y 0 = fun _ => 0 := by funext q; unfold cto; rw [if_neg (by omega)]

theorem cto_row {Y r : Nat → Int} {n : Nat} (h : ∀ y, y < 8 → r y = Y (n + y)) (q : Nat) : splice (bys (cto Y n)) n 8 (bys r) q = bys (cto Y (n + 8)) q := by
  unfold splice bys cto
  by_cases e : n ≤ q ∧ q < n + 8
  · rw [if_pos e, if_pos (by omega), h (q - n) (by omega), show n + (q - n) = q by omega]
  · rw [if_neg e]
    by_cases e2 : q < n
    · rw [if_pos e2, if_pos (by omega)]
    · rw [if_neg e2, if_neg (by omega)]

theorem cto_more {Y : Nat → Int} {n n' : Nat} (hn : n ≤ n') (h : ∀ q, n ≤ q → q < n' → Y q = 0) : cto Y n' = cto Y n := by
  funext q
  unfold cto
  by_cases e : q < n
  · rw [if_pos e, if_pos (by omega)]
  · rw [if_neg e]
    by_cases e2 : q < n'
    · rw [if_pos e2, h q (by omega) e2]
    · rw [if_neg e2]

/-- The maps of a quotient module. -/
noncomputable def qmt (p : Int) (A : Nat → Nat → Int) (m : Nat) (P : Nat → Nat) (t : Nat → Int) (a N : Nat) : Nat → Int := fun q =>
  if q / 64 < N ∧ q / 8 % 8 < fre P m a then pck (rdk p A (fun y => t (64 * (q / 64) + 8 * frp P m a (q / 8 % 8) + y)) m) (frp P m a) (fre P m a) (q % 8) else 0

/-- What is asked, and what may fail. -/
def qok (h : HT) (d : Int) (t : Nat → Int) (L : Nat → Nat → Int) (k : Nat) : Prop := (isHopf h ∧ isModule h h.N d t) ∧ ∀ i, i < k → isVec h.p d (L i)

def qgd (h : HT) (d : Int) (t : Nat → Int) (L : Nat → Nat → Int) (k : Nat) : Prop :=
  fre (rdA h.p L k).2.2 (rdA h.p L k).2.1 d.toNat ≠ 0 ∧ ∀ q, q < h.N * (rdA h.p L k).2.1 → isIn h.p (rdA h.p L k).1 (rdA h.p L k).2.1 (ldl h.p t (rdA h.p L k).1 (rdA h.p L k).2.1 q)

noncomputable def qmV (h : HT) (d : Int) (t : Nat → Int) (L : Nat → Nat → Int) (k : Nat) : Nat → SV :=
  if tb (qok h d t L k ∧ qgd h d t L k) = true then modC (fre (rdA h.p L k).2.2 (rdA h.p L k).2.1 d.toNat : Nat) (qmt h.p (rdA h.p L k).1 (rdA h.p L k).2.1 (rdA h.p L k).2.2 t d.toNat h.N) else modC 0 (fun _ => 0)

theorem modZ (q : Nat) (hq : q < 513) : Zs.c [(1, SV.int IntKind.i64 0), (512, SV.int IntKind.u8 0)] q = modC 0 (fun _ => 0) q := by
  show (if q < 1 then SV.int IntKind.i64 0 else SV.int IntKind.u8 0) = _
  unfold modC
  (repeat' split) <;> first | rfl | omega

theorem Ext.push {F H : Hp} {b : Nat} (k : Blk) (hE : Ext F H) (hb : H.get b = none) : Ext F ((b, k) :: H) := fun b' k' h => by
  have := hE b' k' h
  rw [Hp.get_ne _ _ (fun q => by subst q; rw [hb] at this; cases this)]; exact this

theorem qmt_out {p : Int} {A : Nat → Nat → Int} {m : Nat} {P : Nat → Nat} {t : Nat → Int} {a N q : Nat} (h : N ≤ q / 64 ∨ fre P m a ≤ q / 8 % 8) : qmt p A m P t a N q = 0 := by
  unfold qmt; rw [if_neg (by omega)]

theorem qmt_row {p : Int} {A : Nat → Nat → Int} {m : Nat} {P : Nat → Nat} {t : Nat → Int} {a N i k y : Nat} (hi : i < N) (hk : k < fre P m a) (hk8 : k < 8) (hy : y < 8) : qmt p A m P t a N (64 * i + 8 * k + y) = pck (rdk p A (fun y => t (64 * i + 8 * frp P m a k + y)) m) (frp P m a) (fre P m a) y := by
  unfold qmt
  rw [show (64 * i + 8 * k + y) / 64 = i by omega, show (64 * i + 8 * k + y) / 8 % 8 = k by omega, show (64 * i + 8 * k + y) % 8 = y by omega, if_pos ⟨hi, hk⟩]

section

variable {P : Program}

theorem FT.mono {N m : Nat} {ll : List Ins} {t : OT} {e : Env} {H F : Hp} {n : Nat} {K K2 : Env → Hp → Prop} (h : FT P N m ll t e H F n K) (hK : ∀ e' H', K e' H' → K2 e' H') : FT P N m ll t e H F n K2 :=
  ⟨fun ops eff hl hb a Ka hag hE hk => h.h ops eff hl hb a Ka hag hE fun e' a' H' q1 q2 q3 => hk e' a' H' (hK e' H' q1) q2 q3⟩

end

end Go.V

namespace Go.Proofs.YtkmfdhicjaccaaaGreat

open Go.V

variable [BW]

set_option linter.unusedSimpArgs false

set_option linter.unusedVariables false

set_option maxHeartbeats 4000000

theorem impl_reduced_nil (p : Int) (A : Nat → Nat → Int) (H : Hp) (n : Nat) (hp : isP p = true) :
    FnS Tryz.prog 32 [i64 p, .s .nils] H n (fun r H' n' => ∃ sv' A' d' P' b', r = .s sv' ∧ VL H' sv' d' A' b' ∧ RR p A' d' P' ∧ same p A' d' A 0 ∧ n ≤ b' ∧ b' < n' ∧ (∀ x, n' ≤ x → H'.get x = none) ∧ ∀ x, x < n → H'.get x = H.get x) := by
  have hb := isP_le hp
  have hA : ∀ i, i < 0 → isRes p 8 (A i) := fun i hi => absurd hi (by omega)
  refine FnS.of_body Tryz.func32 tr32 (by simp) (fun hf => ?_)
  dsimp only [argEnv]
  unfold ir32
  (refine zG ?_)
  refine RS.call rfl ((impl_newSystem p 8 _ _).mono ?_)
  rintro r H' n1 hn1 ⟨rfl, hn1', ks0, rfl, k5, k0, k1, k2, k3, k4⟩
  (refine zG ?_)
  refine CS.iterJ 0 (fun i => [(15, i64 (i : Nat)), (14, i64 ((0 : Nat) : Int)), (13, .s .nils), (5, ptr n 0), (0, i64 p)])
    (fun i H1 n2 => ∃ rb bk cp ks, SY H1 n p 8 i (zc 8 A) rb bk cp ks ∧ n < rb ∧ rb ≤ n2 ∧ (∀ j, j < i → n < bk j) ∧ (i = 0 → ks.c 3 = .nils) ∧ (∀ x, x < n → H1.get x = H.get x) ∧ ∀ x, n2 ≤ x → H1.get x = none) (by (repeat first | exact trivial | refine And.intro rfl ?_)) ?_ ?_
  · exact ⟨n + 1, fun _ => n + 1, fun _ => 0, ks0, { g := Hp.get_eq _ _ _, s := k5, c0 := k0, c1 := k1, c2 := k2, rows := .inl ⟨k3, rfl⟩, row := fun i hi => by omega, qc := fun i hi => by omega, d1 := by omega, d2 := fun i hi => by omega, d3 := fun i j hi => by omega }, by omega, by omega, fun j hj => by omega, fun _ => k3, fun x hx => Hp.get_ne _ _ (by omega), fun x hx => by rw [Hp.get_ne _ _ (by omega)]; exact hf x (by omega)⟩
  rintro i n2 H1 hi hn2 ⟨rb, bk, cp, ks, hS, hrb, hrb2, hbk, hnil, hlow, hfr⟩
  have gs := hS.g
  have ss := hS.s
  have hbkn : ∀ j, j < i → bk j < n2 := fun j hj => by
    obtain ⟨kj, gj, _⟩ := hS.row j hj
    exact getlt hfr gj
  obtain rfl : i = 0 := by omega
  (refine zG ?_)
  refine RS.call rfl ((solve_red p 0 (zc 8 A) n rb bk cp ks _ _ hp (by omega) hS hnil (fun k x hk hx => by
    unfold zc
    by_cases e : x < 8
    · rw [if_pos e]; exact hA k hk x e
    · rw [if_neg e]; omega)).mono ?_)
  rintro r H3 n3 hn3 ⟨R, P, d, bk', ks', hdm, hRR, hsm, hS3, hfr3, hlow3⟩
  have hsm2 : same p (zc 8 R) d A 0 := same_trans hsm (same_congr (fun k x hk hx => by unfold zc; rw [if_pos hx, if_pos hx]))
  have hd8 := hRR.d8
  have gs3 := hS3.g
  have ss3 := hS3.s
  have h3n := getlt hfr3 gs3
  have hl3 : ∀ x, x < n → H3.get x = H.get x := fun x hx => by rw [hlow3 x (by omega) (by omega) (by omega) (fun k hk => by have := hbk k hk; omega)]; exact hlow x hx
  rcases hS3.rows with ⟨r3, rfl⟩ | ⟨ro, rcap, rk, r3, rg, rs, rm, rc⟩
  · have r3' : ks'.c (0 + 3) = .nils := r3
    (refine zG ?_)
    refine CS.iter 0 (fun i => [(41, i64 (i : Nat)), (40, i64 0), (8, .s (.slc n3 0 0 0))]) (fun _ => (n3, ⟨0 * 8, fun i => Zs.c [(8, SV.int .u8 0)] (i % 8), 31⟩) :: H3) (fun _ => True) (by (repeat first | exact trivial | refine And.intro rfl ?_)) (Drops.refl _ _) trivial ?_
    intro i n4 hi4 hn4 _
    obtain rfl : i = 0 := by omega
    (refine zG ?_)
    exact ⟨.s (.slc n3 0 0 0), _, rfl, Drops.refl _ _, _, zc 8 R, 0, P, n3, rfl, ⟨0, 0, _, rfl, Hp.get_eq _ _ _, by simp, Nat.le_refl _, fun i x hi => by omega⟩, hRR, hsm2, by omega, by omega, fun x hx => by rw [Hp.get_ne _ _ (by omega)]; exact hfr3 x (by omega), fun x hx => by rw [Hp.get_ne _ _ (by omega)]; exact hl3 x hx⟩
  · have r3' : ks'.c (0 + 3) = .slc rb ro d rcap := r3
    have hrb3 := getlt hfr3 rg
    (refine zG ?_)
    refine CS.weak (e1 := [(41, i64 ((0 : Nat) : Int)), (40, i64 (d : Nat)), (39, .s (.slc rb ro d rcap)), (8, .s (.slc n3 0 0 0))]) (by (repeat first | exact trivial | refine And.intro rfl ?_)) (Drops.refl _ _) ?_
    refine CS.loop (fun k e H1 n1 => ∃ i v8 b8, i ≤ d ∧ k = d - i ∧ e = [(41, i64 (i : Nat)), (40, i64 (d : Nat)), (39, .s (.slc rb ro d rcap)), (8, .s v8)] ∧ VL H1 v8 i (zc 8 R) b8 ∧ n3 ≤ b8 ∧ b8 < n1 ∧ (∀ x, x < n3 → H1.get x = H3.get x) ∧ ∀ x, n1 ≤ x → H1.get x = none) d ?_ ?_
    · exact ⟨0, _, n3, by omega, rfl, rfl, ⟨0, 0, _, rfl, Hp.get_eq _ _ _, by simp, Nat.le_refl _, fun i x hi => by omega⟩, by omega, by omega, fun x hx => Hp.get_ne _ _ (by omega), fun x hx => by rw [Hp.get_ne _ _ (by omega)]; exact hfr3 x (by omega)⟩
    rintro k e H4 n4 hn4 ⟨i, v8, b8, hi8, rfl, rfl, hV8, hb8, hb8n, hl4, hfr4⟩
    have rg4 : H4.get rb = some rk := by rw [hl4 rb hrb3]; exact rg
    (refine zG ?_)
    refine zI ?_ ?_<;>intro h5
    · have hi' : i < d := by omega
      have rc1 : rk.c (ro + i * 1) = .slc (bk' i) 0 (8 + 1) (cp (bk' i)) := by rw [Nat.mul_one]; exact rc i hi'
      obtain ⟨ki, gi, si, ci⟩ := hS3.row i hi'
      have hqc := hS3.qc i hi'
      have hbi3 := getlt hfr3 gi
      have gi4 : H4.get (bk' i) = some ki := by rw [hl4 _ hbi3]; exact gi
      have ci8 : ∀ x, x < 8 → ki.c (0 + x) = .int .u8 (R i x) := fun x hx => by rw [Nat.zero_add]; exact ci x (by omega)
      (refine zG ?_)
      refine RS.slsTo (j := 8) (by exact rfl) (by exact rfl) rfl (by omega) ?_
      (repeat first|refine zG ?_|(refine LS.nilO ?_;intro nq hnq hltq;try refine zU ?_)|(refine MS.new ?_;intro bq hbq hbqf;try refine zU ?_)|(refine MS.nil ?_;intro nq hnq hltq;have hlq:=hltq _ _ (Hp.get_eq _ _ _);clear hltq;try refine zU ?_)|(refine LS.nilQ ?_;try with_reducible intro nq hnq;try refine zU ?_))
      refine RS.s2a (by exact rfl) (by omega) ?_
      (refine zG ?_)
      refine RS.appV (w := R i) (by exact rfl) (by exact rfl) (hV8.keep (Hp.get_ne _ _ (by omega))) (Hp.get_eq _ _ _) rfl (fun q hq => by (try dsimp only); unfold splice; rw [if_pos (by omega), Nat.sub_zero]; rfl) (by omega) (by rw [Hp.get_ne _ _ (by omega)]; exact hfr4 _ (by omega)) (by omega) ?_
      intro vB bB HB nB hVB0 hbB hltB hnB hnB' hgB
      have hVB : VL HB vB (i + 1) (zc 8 R) bB := hVB0.same (fun k x hk hx => by
        unfold snc
        by_cases e : k = i
        · rw [if_pos e, e]; unfold zc; rw [if_pos hx]
        · rw [if_neg e])
      (refine zG ?_)
      refine ⟨d - (i + 1), [(41, i64 ((i + 1 : Nat) : Int)), (40, i64 (d : Nat)), (39, .s (.slc rb ro d rcap)), (8, .s vB)], HB, by omega, by (repeat first | exact trivial | refine And.intro rfl ?_), Drops.refl _ _, i + 1, vB, bB, by omega, rfl, rfl, hVB, by omega, hltB, fun x hx => by rw [hgB x (by omega), Hp.get_ne _ _ (by omega)]; exact hl4 x hx, fun x hx => by rw [hgB x (by omega), Hp.get_ne _ _ (by omega)]; exact hfr4 x (by omega)⟩
    · obtain rfl : d = i := by omega
      (refine zG ?_)
      exact ⟨.s v8, H4, rfl, Drops.refl _ _, v8, zc 8 R, d, P, b8, rfl, hV8, hRR, hsm2, by omega, by omega, fun x hx => hfr4 x (by omega), fun x hx => by rw [hl4 x (by omega)]; exact hl3 x hx⟩

/-- impl.QuotientModule -/
def ir10 : Cd := (.seq (.reg [⟨some 3,none,.box 41 (.t 0)⟩,⟨some 4,none,.box 36 (.t 1)⟩,⟨some 6,none,.new 36 [(1,(.int .i64 0)),(512,(.int .u8 0))]⟩,⟨some 7,none,.mov (.c (.int .i64 0))⟩]) (.seq (.reg [⟨some 16,none,.bsl 67 1 1 [(1,.nil)] [(0,1,(.t 4))]⟩,⟨some 17,none,.call 28 [(.t 3),(.t 16)]⟩,⟨some 8,none,.mov (.t 17)⟩]) (.seq (.seq (.reg [⟨some 18,none,.mov (.t 8)⟩,⟨some 19,none,.mov (.t 2)⟩,⟨some 20,none,.call 30 [(.t 4),(.t 3),(.t 19)]⟩,⟨some 21,none,.bsl 2 2 1 [(1,(.int .i64 0))] [(0,1,(.t 18)),(1,1,(.t 20))]⟩,⟨some 22,none,.call 29 [(.t 21)]⟩,⟨some 8,none,.mov (.t 22)⟩]) (.seq (.reg [⟨some 23,none,.mov (.t 8)⟩,⟨some 24,none,.bin .neq (.t 23) (.c (.int .i64 0))⟩]) (.cond (.t 24) (.seq (.reg [⟨some 25,none,.build 513 [(1,(.int .i64 0)),(512,(.int .u8 0))] []⟩,⟨some 26,none,.mov (.t 8)⟩,⟨none,none,.st 513 (.t 6) (.t 25)⟩,⟨some 7,none,.mov (.t 26)⟩]) .ret) .skip))) (.seq (.drwn (.seg 1 (.seg 2 (.seg 3 (.fork (.seg 0 (.fork (.seg 4 (.seg 5 (.seg 6 (.seg 7 .done)))) (.seg 5 (.seg 4 (.seg 6 (.seg 7 .done)))))) (.seg 5 (.seg 0 (.seg 4 (.seg 6 (.seg 7 .done))))))))) [⟨some 27,none,.call 31 [(.t 4),(.t 3)]⟩,⟨some 28,none,.fa 0 (.t 3)⟩,⟨some 29,none,.ld none (.t 28)⟩,⟨some 30,none,.mov (.t 2)⟩,⟨some 31,none,.call 32 [(.t 29),(.t 30)]⟩,⟨some 9,none,.new 71 [(2,(.int .i64 0))]⟩,⟨none,none,.st 2 (.t 9) (.t 27)⟩,⟨some 10,none,.mov (.t 31)⟩]) (.seq (.reg [⟨some 32,none,.fa 1 (.t 9)⟩,⟨some 33,none,.ld none (.t 32)⟩,⟨some 34,none,.mov (.t 10)⟩,⟨some 35,none,.call 33 [(.t 33),(.t 34)]⟩,⟨some 11,none,.mov (.t 35)⟩]) (.seq (.seq (.reg [⟨some 36,none,.mov (.t 11)⟩,⟨some 37,none,.len (.t 36)⟩,⟨some 38,none,.bin .eql (.t 37) (.c (.int .i64 0))⟩,⟨some 39,none,.mov (.t 38)⟩,⟨some 40,(some (39,false)),.mov (.t 10)⟩,⟨some 41,(some (39,false)),.call 34 [(.t 4),(.t 3),(.t 40)]⟩,⟨some 42,(some (39,false)),.un .not (.t 41)⟩,⟨some 43,none,.pick (.t 39) (.c (.bool true)) (.t 42)⟩]) (.cond (.t 43) (.seq (.reg [⟨some 44,none,.build 513 [(1,(.int .i64 0)),(512,(.int .u8 0))] []⟩,⟨none,none,.st 513 (.t 6) (.t 44)⟩,⟨some 7,none,.mov (.c (.int .i64 5))⟩]) .ret) .skip)) (.seq (.reg [⟨some 45,none,.mov (.t 11)⟩,⟨some 46,none,.len (.t 45)⟩,⟨some 47,none,.build 513 [(1,(.int .i64 0)),(512,(.int .u8 0))] [(0,1,(.t 46))]⟩,⟨some 12,none,.new 36 [(1,(.int .i64 0)),(512,(.int .u8 0))]⟩,⟨none,none,.st 513 (.t 12) (.t 47)⟩]) (.seq (.seq (.reg [⟨some 48,none,.fa 1 (.t 3)⟩,⟨some 49,none,.ld none (.t 48)⟩,⟨some 50,none,.mov (.c (.int .i64 0))⟩]) (.block 0 (.loop (.seq (.reg [⟨some 51,none,.bin .lss (.t 50) (.t 49)⟩]) (.seq (.cond (.t 51) .skip (.exit 0)) (.seq (.block 1 (.seq (.reg [⟨some 52,none,.mov (.t 50)⟩,⟨some 13,none,.mov (.t 52)⟩]) (.seq (.reg [⟨some 53,none,.mov (.t 11)⟩,⟨some 54,none,.len (.t 53)⟩,⟨some 55,none,.mov (.c (.int .i64 0))⟩]) (.block 2 (.loop (.seq (.reg [⟨some 56,none,.bin .lss (.t 55) (.t 54)⟩]) (.seq (.cond (.t 56) .skip (.exit 2)) (.seq (.block 3 (.seq (.reg [⟨some 57,none,.mov (.t 55)⟩,⟨some 58,none,.isl 1 (.t 53) (.t 55)⟩,⟨some 59,none,.ld none (.t 58)⟩,⟨some 14,none,.mov (.t 57)⟩,⟨some 15,none,.mov (.t 59)⟩]) (.drwo true [16] [0,1,2,3,4,5,6,7,8,9,11,13,14,10,12,15,16] [⟨some 60,none,.mov (.t 13)⟩,⟨some 61,none,.mov (.t 14)⟩,⟨some 62,none,.ld (some 2) (.t 9)⟩,⟨some 63,none,.mov (.t 10)⟩,⟨some 64,none,.mov (.t 13)⟩,⟨some 65,none,.mov (.t 15)⟩,⟨some 66,none,.fa 1 (.t 4)⟩,⟨some 67,none,.ia 8 64 (.t 66) (.t 64)⟩,⟨some 68,none,.ia 8 8 (.t 67) (.t 65)⟩,⟨some 69,none,.ld (some 8) (.t 68)⟩,⟨some 70,none,.call 36 [(.t 62),(.t 63),(.t 69)]⟩,⟨some 71,none,.mov (.t 11)⟩,⟨some 72,none,.call 35 [(.t 70),(.t 71)]⟩,⟨some 73,none,.fa 1 (.t 12)⟩,⟨some 74,none,.ia 8 64 (.t 73) (.t 60)⟩,⟨some 75,none,.ia 8 8 (.t 74) (.t 61)⟩,⟨none,none,.st 8 (.t 75) (.t 72)⟩]))) (.reg [⟨some 76,none,.bin .add (.t 55) (.c (.int .i64 1))⟩,⟨some 55,none,.mov (.t 76)⟩]))))))))) (.reg [⟨some 77,none,.bin .add (.t 50) (.c (.int .i64 1))⟩,⟨some 50,none,.mov (.t 77)⟩]))))))) (.seq (.reg [⟨some 78,none,.ld (some 513) (.t 12)⟩,⟨none,none,.st 513 (.t 6) (.t 78)⟩,⟨some 7,none,.mov (.c (.int .i64 0))⟩]) .ret)))))))))

set_option maxRecDepth 100000 in
theorem tr10 : trFn Tryz.prog Tryz.f10 = some (79, ir10, [.cell (some 513) 6, .tmp 7]) := by kernel_rfl

theorem impl_QuotientModule (h : HT) (d : Int) (t : Nat → Int) (L : Nat → Nat → Int) (k lb : Nat) (lv : SV) (Kh Km : Nat → SV) (H : Hp) (n : Nat) (hK : h.At Kh) (hB : h.By) (kd : Km 0 = .int .i64 d) (cm : ∀ q, q < 512 → Km (1 + q) = .int .u8 (t q)) (ht : isBy 512 t)
    (hk : k ≤ 1000000) (hL : VN H lv k L lb) (hLb : ∀ i, i < k → isBy 8 (L i)) (hlb : lb < n) :
    FnS Tryz.prog 10 [.arr 1106 Kh, .arr 513 Km, .s lv] H n (fun r H' _ => r = .tup [.arr 513 (qmV h d t L k), i64 (k5 (qok h d t L k) (qgd h d t L k))] ∧ H' = H) := by
  have hk0 := hK.p
  have hk1 := hK.n
  refine FnS.of_body Tryz.func10 tr10 (by simp) (fun hf => ?_)
  dsimp only [argEnv]
  unfold ir10
  (repeat first|refine zG ?_|(refine LS.nilO ?_;intro nq hnq hltq;try refine zU ?_)|(refine MS.new ?_;intro bq hbq hbqf;try refine zU ?_)|(refine MS.nil ?_;intro nq hnq hltq;have hlq:=hltq _ _ (Hp.get_eq _ _ _);clear hltq;try refine zU ?_)|(refine LS.nilQ ?_;try with_reducible intro nq hnq;try refine zU ?_))
  refine RS.call rfl ((impl_modulesCode h d t (n + 1) n (n + 3) _ _ _ _ _ hK hB (by exact zH) rfl kd cm ht (by exact zH) rfl (by exact zH) rfl rfl).mono ?_)
  rintro r H' n2 hn2 ⟨rfl, rfl⟩
  (repeat first|refine zG ?_|(refine LS.nilO ?_;intro nq hnq hltq;try refine zU ?_)|(refine MS.new ?_;intro bq hbq hbqf;try refine zU ?_)|(refine MS.nil ?_;intro nq hnq hltq;have hlq:=hltq _ _ (Hp.get_eq _ _ _);clear hltq;try refine zU ?_)|(refine LS.nilQ ?_;try with_reducible intro nq hnq;try refine zU ?_))
  refine RS.call rfl ((Module_vectorsCode h.p d L k lb n (n + 1) lv _ _ _ _ (by omega) (hL.keep (by simp (disch := omega) only [Hp.get_ne])) (by omega) hLb (by exact zH) rfl hk0 (by exact zH) rfl kd).mono ?_)
  rintro r H' n3 hn3 ⟨rfl, rfl⟩
  (repeat first|refine zG ?_|(refine LS.nilO ?_;intro nq hnq hltq;try refine zU ?_)|(refine MS.new ?_;intro bq hbq hbqf;try refine zU ?_)|(refine MS.nil ?_;intro nq hnq hltq;have hlq:=hltq _ _ (Hp.get_eq _ _ _);clear hltq;try refine zU ?_)|(refine LS.nilQ ?_;try with_reducible intro nq hnq;try refine zU ?_))
  refine RS.call rfl ((impl_first2 n3 2 (cd (isHopf h ∧ isModule h h.N d t)) (cd (∀ i, i < k → sz h.p d ∧ isVec h.p d (L i))) _ _ _ (by exact zH) rfl rfl rfl).mono ?_)
  rintro r H' n4 hn4 ⟨rfl, rfl⟩
  have eq : ((isHopf h ∧ isModule h h.N d t) ∧ ∀ i, i < k → sz h.p d ∧ isVec h.p d (L i)) ↔ qok h d t L k := by
    unfold qok
    constructor
    · rintro ⟨h1, h2⟩
      exact ⟨h1, fun i hi => (h2 i hi).2⟩
    · rintro ⟨h1, h2⟩
      exact ⟨h1, fun i hi => ⟨⟨h1.1.1.1.1.1, h1.2.1.1⟩, h2 i hi⟩⟩
  rw [cd2, cd_iff eq]
  by_cases hq : qok h d t L k
  · rw [cd_true hq]
    obtain ⟨⟨hh, hmod⟩, hvec⟩ := id hq
    obtain ⟨N, hS⟩ := hh.1.hs
    have hN := hS.N
    have hd := hmod.1.1
    obtain ⟨s, rfl⟩ := Int.eq_ofNat_of_zero_le (show 0 ≤ d by omega)
    have hisP : isP h.p = true := hh.1.1.1.1
    have hp := hS.hp
    have hLr : ∀ i, i < k → isRes h.p 8 (L i) := fun i hi => (hvec i hi).res (hLb i hi)
    obtain ⟨A, m, P, hrd⟩ : ∃ A m P, rdA h.p L k = (A, m, P) := ⟨_, _, _, rfl⟩
    have red : ∀ (HC : Hp) (n' : Nat), VN HC lv k L lb → (∀ x, n' ≤ x → HC.get x = none) → FnS Tryz.prog 32 [i64 h.p, .s lv] HC n' (fun r H' n'' => (∃ sv bs, r = .s sv ∧ VL H' sv m A bs ∧ RR h.p A m P ∧ n' ≤ bs ∧ HC.get bs = none ∧ ∀ x, x < n' → H'.get x = HC.get x) ∧ Ext HC H') := fun HC n' hLc hfr' => by
      refine FnS.mono (R := fun r H' n'' => ∃ sv' A' d' P' b', r = .s sv' ∧ VL H' sv' d' A' b' ∧ RR h.p A' d' P' ∧ same h.p A' d' L k ∧ n' ≤ b' ∧ b' < n'' ∧ (∀ x, n'' ≤ x → H'.get x = none) ∧ ∀ x, x < n' → H'.get x = HC.get x) ?_ ?_
      · rcases hLc with ⟨rfl, rfl⟩ | hLc
        · exact impl_reduced_nil h.p L HC n' hisP
        · exact impl_reduced h.p L k lb lv HC n' hisP hk hLc hLr
      · rintro r H' n'' hn'' ⟨sv', A', d', P', b', rfl, q1, q2, q3, q4, q5, q6, q7⟩
        obtain ⟨A1, P1, e1, e2, e3, e4⟩ := rdA_is hp.1 q2 q3
        rw [hrd] at e1
        simp only [Prod.mk.injEq] at e1
        obtain ⟨rfl, rfl, rfl⟩ := e1
        exact ⟨⟨sv', b', rfl, q1.same e4, e2, q4, hfr' b' q4, q7⟩, fun b k hb => by rw [q7 b (getlt hfr' hb)]; exact hb⟩
    (repeat first|refine zG ?_|(refine LS.nilO ?_;intro nq hnq hltq;try refine zU ?_)|(refine MS.new ?_;intro bq hbq hbqf;try refine zU ?_)|(refine MS.nil ?_;intro nq hnq hltq;have hlq:=hltq _ _ (Hp.get_eq _ _ _);clear hltq;try refine zU ?_)|(refine LS.nilQ ?_;try with_reducible intro nq hnq;try refine zU ?_))
    obtain ⟨HX, hHX⟩ : ∃ HX : Hp, HX = (n + 2, ⟨513, Zs.c [(1, SV.int .i64 0), (512, SV.int .u8 0)], 36⟩) :: (n + 1, ⟨513, Km, 36⟩) :: (n, ⟨1106, Kh, 41⟩) :: H := ⟨_, rfl⟩
    refine CS.weak (e1 := [(3, ptr n 0), (4, ptr (n + 1) 0), (6, ptr (n + 2) 0), (2, .s lv)]) (H1 := HX) (by (repeat first | exact trivial | refine And.intro rfl ?_)) (by rw [hHX]; exact zD) ?_
    have g0 : HX.get n = some ⟨1106, Kh, 41⟩ := by rw [hHX]; exact zH
    have g1 : HX.get (n + 1) = some ⟨513, Km, 36⟩ := by rw [hHX]; exact zH
    have g2 : HX.get (n + 2) = some ⟨513, Zs.c [(1, SV.int .i64 0), (512, SV.int .u8 0)], 36⟩ := by rw [hHX]; exact zH
    have hLX : VN HX lv k L lb := by rw [hHX]; exact hL.keep (by simp (disch := omega) only [Hp.get_ne])
    have hXlt : ∀ x, HX.get x ≠ none → x < n4 := fun x hx => by
      rcases Nat.lt_or_ge x n4 with q | q
      · exact q
      · exact absurd (by rw [hHX, Hp.get_ne _ _ (by omega), Hp.get_ne _ _ (by omega), Hp.get_ne _ _ (by omega)]; exact hf x (by omega)) hx
    have hXl : ∀ x, x < n → HX.get x = H.get x := fun x hx => by rw [hHX, Hp.get_ne _ _ (by omega), Hp.get_ne _ _ (by omega), Hp.get_ne _ _ (by omega)]
    have hlb4 : lb < n4 := by omega
    refine CS.ordN HX (Ext.refl _) ?_
    refine FT.mono (K := fun e' H' => ∃ sv bs b9, EnvLe [(3, ptr n 0), (4, ptr (n + 1) 0), (6, ptr (n + 2) 0), (9, ptr b9 0), (10, .s sv)] e' ∧ ∃ K9, H'.get b9 = some K9 ∧ K9.size = 2 ∧ (∀ q, q < 2 → K9.c q = fldC h.p s q) ∧ VL H' sv m A bs ∧ RR h.p A m P ∧ b9 ≠ bs ∧ n4 ≤ b9 ∧ n4 ≤ bs ∧ ∀ x, x < n4 → H'.get x = HX.get x) ?_ ?_
    · refine FT.seg rfl (ST.fa (by exact rfl) ?_)
      refine FT.seg rfl (ST.ld1 (by exact rfl) g0 (by (try dsimp only); omega) hk0 ?_)
      refine FT.seg rfl (ST.mov (by exact rfl) ?_)
      refine FT.fork ?_ ?_
      · refine FT.seg rfl (ST.callq (fld h.p s) (Ext.refl _) rfl (fun n' h1 h2 => Module_field h.p (s : Nat) (n + 1) n _ _ _ _ g1 g0 (by (try dsimp only); omega) (by (try dsimp only); omega) kd hk0) ?_)
        refine FT.fork ?_ ?_
        · refine FT.seg rfl (ST.call (R := fun r H' => ∃ sv bs, r = .s sv ∧ VL H' sv m A bs ∧ RR h.p A m P ∧ n4 ≤ bs ∧ HX.get bs = none ∧ ∀ x, x < n4 → H'.get x = HX.get x) rfl (fun n' h1 h2 => (red HX n' hLX h2).mono (fun r H' _ _ q => by
            obtain ⟨⟨sv, bs, q1, q2, q3, q4, q5, q6⟩, q7⟩ := q
            exact ⟨⟨sv, bs, q1, q2, q3, by omega, q5, fun x hx => q6 x (by omega)⟩, q7⟩)) ?_)
          rintro r HC ⟨sv, bs, rfl, V, rr, hbs, hbn, lo⟩ hE
          refine FT.seg rfl (ST.new hE ?_)
          intro b9 hb9 hf9
          have hF9 : HX.get b9 = none := by
            cases e : HX.get b9 with
            | none => rfl
            | some kk => exact absurd (hXlt b9 (by rw [e]; simp)) (by omega)
          have hne : b9 ≠ bs := by
            rintro rfl
            obtain ⟨o, cap, kk, -, q, -⟩ := V
            rw [hf9 b9 (Nat.le_refl _)] at q; cases q
          refine FT.seg rfl (ST.sta (by exact rfl) (by exact rfl) (Hp.get_eq _ _ _) (by simp [Zs.size]) hF9 (hE.push _ (hf9 b9 (Nat.le_refl _))) ?_)
          refine FT.seg rfl (ST.mov (by exact rfl) ?_)
          exact FT.done ⟨sv, bs, b9, by (repeat first | exact trivial | refine And.intro rfl ?_), _, by rw [Hp.set_eq]; exact Hp.get_eq _ _ _, rfl, fun q hq => by (try dsimp only); unfold splice; rw [if_pos (by omega), Nat.sub_zero], by rw [Hp.set_eq]; exact V.keep (Hp.get_ne _ _ hne), rr, hne, hb9, hbs, fun x hx => by rw [Hp.set_eq, Hp.get_ne _ _ (by omega)]; exact lo x hx⟩
        · refine FT.seg rfl (ST.new (Ext.refl _) ?_)
          intro b9 hb9 hf9
          have hF9 : HX.get b9 = none := hf9 b9 (Nat.le_refl _)
          obtain ⟨HN, hHN⟩ : ∃ HN : Hp, HN = (b9, ⟨Zs.size [(2, SV.int .i64 0)], Zs.c [(2, SV.int .i64 0)], 71⟩) :: HX := ⟨_, rfl⟩
          rw [← hHN]
          have gN : HN.get b9 = some ⟨Zs.size [(2, SV.int .i64 0)], Zs.c [(2, SV.int .i64 0)], 71⟩ := by rw [hHN]; exact Hp.get_eq _ _ _
          have hEN : Ext HX HN := by rw [hHN]; exact (Ext.refl _).push _ hF9
          have hLN : VN HN lv k L lb := hLX.keep (by rw [hHN, Hp.get_ne _ _ (by omega)])
          have hNl : ∀ x, x < n4 → HN.get x = HX.get x := fun x hx => by rw [hHN, Hp.get_ne _ _ (by omega)]
          refine FT.seg rfl (ST.call (R := fun r H' => ∃ sv bs, r = .s sv ∧ VL H' sv m A bs ∧ RR h.p A m P ∧ n4 ≤ bs ∧ HN.get bs = none ∧ Ext HN H' ∧ ∀ x, x < n4 → H'.get x = HN.get x) rfl (fun n' h1 h2 => (red HN n' hLN h2).mono (fun r H' _ _ q => by
            obtain ⟨⟨sv, bs, q1, q2, q3, q4, q5, q6⟩, q7⟩ := q
            exact ⟨⟨sv, bs, q1, q2, q3, by omega, q5, q7, fun x hx => q6 x (by omega)⟩, hEN.trans q7⟩)) ?_)
          rintro r HC ⟨sv, bs, rfl, V, rr, hbs, hbn, hNC, lo⟩ hE
          have hne : b9 ≠ bs := by
            rintro rfl
            rw [gN] at hbn; cases hbn
          have gC := hNC _ _ gN
          refine FT.seg rfl (ST.sta (by exact rfl) (by exact rfl) gC (by simp [Zs.size]) hF9 hE ?_)
          refine FT.seg rfl (ST.mov (by exact rfl) ?_)
          exact FT.done ⟨sv, bs, b9, by (repeat first | exact trivial | refine And.intro rfl ?_), _, Hp.get_set_self _ gC, rfl, fun q hq => by (try dsimp only); unfold splice; rw [if_pos (by omega), Nat.sub_zero], V.keep (Hp.get_set_other _ hne), rr, hne, hb9, hbs, fun x hx => by rw [Hp.get_set_other _ (by omega), lo x hx, hNl x hx]⟩
      · refine FT.seg rfl (ST.new (Ext.refl _) ?_)
        intro b9 hb9 hf9
        have hF9 : HX.get b9 = none := hf9 b9 (Nat.le_refl _)
        obtain ⟨HN, hHN⟩ : ∃ HN : Hp, HN = (b9, ⟨Zs.size [(2, SV.int .i64 0)], Zs.c [(2, SV.int .i64 0)], 71⟩) :: HX := ⟨_, rfl⟩
        rw [← hHN]
        have gN : HN.get b9 = some ⟨Zs.size [(2, SV.int .i64 0)], Zs.c [(2, SV.int .i64 0)], 71⟩ := by rw [hHN]; exact Hp.get_eq _ _ _
        have hEN : Ext HX HN := by rw [hHN]; exact (Ext.refl _).push _ hF9
        have hLN : VN HN lv k L lb := hLX.keep (by rw [hHN, Hp.get_ne _ _ (by omega)])
        have hNl : ∀ x, x < n4 → HN.get x = HX.get x := fun x hx => by rw [hHN, Hp.get_ne _ _ (by omega)]
        refine FT.seg rfl (ST.callq (fld h.p s) hEN rfl (fun n' h1 h2 => Module_field h.p (s : Nat) (n + 1) n _ _ _ _ (hEN _ _ g1) (hEN _ _ g0) (by (try dsimp only); omega) (by (try dsimp only); omega) kd hk0) ?_)
        refine FT.seg rfl (ST.call (R := fun r H' => ∃ sv bs, r = .s sv ∧ VL H' sv m A bs ∧ RR h.p A m P ∧ n4 ≤ bs ∧ HN.get bs = none ∧ Ext HN H' ∧ ∀ x, x < n4 → H'.get x = HN.get x) rfl (fun n' h1 h2 => (red HN n' hLN h2).mono (fun r H' _ _ q => by
          obtain ⟨⟨sv, bs, q1, q2, q3, q4, q5, q6⟩, q7⟩ := q
          exact ⟨⟨sv, bs, q1, q2, q3, by omega, q5, q7, fun x hx => q6 x (by omega)⟩, hEN.trans q7⟩)) ?_)
        rintro r HC ⟨sv, bs, rfl, V, rr, hbs, hbn, hNC, lo⟩ hE
        have hne : b9 ≠ bs := by
          rintro rfl
          rw [gN] at hbn; cases hbn
        have gC := hNC _ _ gN
        refine FT.seg rfl (ST.sta (by exact rfl) (by exact rfl) gC (by simp [Zs.size]) hF9 hE ?_)
        refine FT.seg rfl (ST.mov (by exact rfl) ?_)
        exact FT.done ⟨sv, bs, b9, by (repeat first | exact trivial | refine And.intro rfl ?_), _, Hp.get_set_self _ gC, rfl, fun q hq => by (try dsimp only); unfold splice; rw [if_pos (by omega), Nat.sub_zero], V.keep (Hp.get_set_other _ hne), rr, hne, hb9, hbs, fun x hx => by rw [Hp.get_set_other _ (by omega), lo x hx, hNl x hx]⟩
    rintro e' H2 ⟨sv, bs, b9, hle, K9, g9, s9, c9, V, rr, hne, hb9, hbs, lo⟩ n5 hn5 hlt5
    dsimp only [Ex.then, Ex.inBlock]
    refine CS.weak hle (Drops.refl _ _) ?_
    have hf5 : ∀ x, n5 ≤ x → H2.get x = none := fun x hx => by
      cases e : H2.get x with
      | none => rfl
      | some kk => exact absurd (hlt5 x kk e) (by omega)
    have m0 : H2.get n = some ⟨1106, Kh, 41⟩ := by rw [lo n (by omega)]; exact g0
    have m1 : H2.get (n + 1) = some ⟨513, Km, 36⟩ := by rw [lo (n + 1) (by omega)]; exact g1
    have m2 : H2.get (n + 2) = some ⟨513, Zs.c [(1, SV.int .i64 0), (512, SV.int .u8 0)], 36⟩ := by rw [lo (n + 2) (by omega)]; exact g2
    have lo2 : ∀ x, x < n → H2.get x = H.get x := fun x hx => by rw [lo x (by omega), hXl x hx]
    have h9n := hlt5 _ _ g9
    have hsn := V.bound hf5
    have c91 : K9.c (0 + 1) = .int .i64 (s : Nat) := by rw [c9 1 (by omega)]; rfl
    clear red hlt5 g0 g1 g2 hXl hXlt hLX hle
    (repeat first|refine zG ?_|(refine LS.nilO ?_;intro nq hnq hltq;try refine zU ?_)|(refine MS.new ?_;intro bq hbq hbqf;try refine zU ?_)|(refine MS.nil ?_;intro nq hnq hltq;have hlq:=hltq _ _ (Hp.get_eq _ _ _);clear hltq;try refine zU ?_)|(refine LS.nilQ ?_;try with_reducible intro nq hnq;try refine zU ?_))
    refine RS.call rfl ((impl_others s m bs A P h.p sv _ _ hp (by omega) V rr).mono ?_)
    rintro r H3 n6 hn6 ⟨pv, pb, rfl, hS3, hpb, hpbn, hfr3, hlow3⟩
    have t0 : H3.get n = some ⟨1106, Kh, 41⟩ := by rw [hlow3 n (by omega)]; exact m0
    have t1 : H3.get (n + 1) = some ⟨513, Km, 36⟩ := by rw [hlow3 (n + 1) (by omega)]; exact m1
    have t2 : H3.get (n + 2) = some ⟨513, Zs.c [(1, SV.int .i64 0), (512, SV.int .u8 0)], 36⟩ := by rw [hlow3 (n + 2) (by omega)]; exact m2
    have t9 : H3.get b9 = some K9 := by rw [hlow3 b9 h9n]; exact g9
    have V3 : VL H3 sv m A bs := V.keep (hlow3 bs hsn)
    have lo3 : ∀ x, x < n → H3.get x = H.get x := fun x hx => by rw [hlow3 x (by omega), lo2 x hx]
    have hm8 := rr.d8
    have hfl := fre_le P m s
    clear m0 m1 m2 g9 V lo2 lo hlow3 hf5
    (repeat first|refine zG ?_|(refine LS.nilO ?_;intro nq hnq hltq;try refine zU ?_)|(refine MS.new ?_;intro bq hbq hbqf;try refine zU ?_)|(refine MS.nil ?_;intro nq hnq hltq;have hlq:=hltq _ _ (Hp.get_eq _ _ _);clear hltq;try refine zU ?_)|(refine LS.nilQ ?_;try with_reducible intro nq hnq;try refine zU ?_))
    refine RS.lenSL (by exact rfl) hS3 ?_
    (repeat first|refine zG ?_|(refine LS.nilO ?_;intro nq hnq hltq;try refine zU ?_)|(refine MS.new ?_;intro bq hbq hbqf;try refine zU ?_)|(refine MS.nil ?_;intro nq hnq hltq;have hlq:=hltq _ _ (Hp.get_eq _ _ _);clear hltq;try refine zU ?_)|(refine LS.nilQ ?_;try with_reducible intro nq hnq;try refine zU ?_))
    refine RS.sp (t := 39) rfl (fun h6 => ?_) (fun h6 => ?_) <;> (try simp only [tb_eq, tb_eqF, decide_eq_true_eq, decide_eq_false_iff_not, beq_iff_eq, bne_iff_ne, ne_eq, Decidable.not_not, beq_eq_false_iff_ne, bne_eq_false_iff_eq, Bool.not_eq_true', Bool.not_eq_false', Bool.not_eq_eq_eq_not, Bool.not_true, Bool.not_false] at h6)
    · have hgd : ¬qgd h (s : Nat) t L k := fun z => z.1 (by rw [hrd]; show fre P m s = 0; omega)
      (repeat first|refine zG ?_|(refine LS.nilO ?_;intro nq hnq hltq;try refine zU ?_)|(refine MS.new ?_;intro bq hbq hbqf;try refine zU ?_)|(refine MS.nil ?_;intro nq hnq hltq;have hlq:=hltq _ _ (Hp.get_eq _ _ _);clear hltq;try refine zU ?_)|(refine LS.nilQ ?_;try with_reducible intro nq hnq;try refine zU ?_))
      exact ⟨.tup [.arr 513 (qmV h (s : Nat) t L k), i64 (k5 (qok h (s : Nat) t L k) (qgd h (s : Nat) t L k))], H, conc_tup2 (conc_arr (fun q hq' => by unfold qmV; rw [tb_false (fun z => hgd z.2)]; simp only [Nat.zero_add]; exact modZ q hq')) (by rw [k5_5 hq hgd]), Drops.low hf (fun x hx => by rw [Hp.get_set_other _ (by omega)]; exact lo3 x hx), rfl, rfl⟩
    · have hf0 : fre P m s ≠ 0 := by omega
      have hk1' : Kh 1 = .int .i64 (N : Nat) := by rw [← hS.hn]; exact hk1
      (repeat first|refine zG ?_|(refine LS.nilO ?_;intro nq hnq hltq;try refine zU ?_)|(refine MS.new ?_;intro bq hbq hbqf;try refine zU ?_)|(refine MS.nil ?_;intro nq hnq hltq;have hlq:=hltq _ _ (Hp.get_eq _ _ _);clear hltq;try refine zU ?_)|(refine LS.nilQ ?_;try with_reducible intro nq hnq;try refine zU ?_))
      refine RS.call rfl ((Module_isSubmodule h.p s N m bs (n + 1) n t A sv _ _ _ _ hp (by omega) hS.ha hm8 t1 rfl kd cm ht t0 rfl hk0 hk1' V3 (fun i hi => rr.res i hi) (fun i hi => by rw [rr.fsn hi]; exact rr.lt i hi)).mono ?_)
      rintro r H3 n7 hn7 ⟨rfl, rfl⟩
      rw [← hN]
      (repeat first|refine zG ?_|(refine LS.nilO ?_;intro nq hnq hltq;try refine zU ?_)|(refine MS.new ?_;intro bq hbq hbqf;try refine zU ?_)|(refine MS.nil ?_;intro nq hnq hltq;have hlq:=hltq _ _ (Hp.get_eq _ _ _);clear hltq;try refine zU ?_)|(refine LS.nilQ ?_;try with_reducible intro nq hnq;try refine zU ?_))
      refine zI ?_ ?_<;>intro h7
      · have hgd : ¬qgd h (s : Nat) t L k := fun z => h7 (by have := z.2; rw [hrd] at this; exact this)
        (repeat first|refine zG ?_|(refine LS.nilO ?_;intro nq hnq hltq;try refine zU ?_)|(refine MS.new ?_;intro bq hbq hbqf;try refine zU ?_)|(refine MS.nil ?_;intro nq hnq hltq;have hlq:=hltq _ _ (Hp.get_eq _ _ _);clear hltq;try refine zU ?_)|(refine LS.nilQ ?_;try with_reducible intro nq hnq;try refine zU ?_))
        exact ⟨.tup [.arr 513 (qmV h (s : Nat) t L k), i64 (k5 (qok h (s : Nat) t L k) (qgd h (s : Nat) t L k))], H, conc_tup2 (conc_arr (fun q hq' => by unfold qmV; rw [tb_false (fun z => hgd z.2)]; simp only [Nat.zero_add]; exact modZ q hq')) (by rw [k5_5 hq hgd]), Drops.low hf (fun x hx => by rw [Hp.get_set_other _ (by omega)]; exact lo3 x hx), rfl, rfl⟩
      · have hgd : qgd h (s : Nat) t L k := by unfold qgd; rw [hrd]; exact ⟨hf0, h7⟩
        have hN8 : N ≤ 8 := hS.ha
        have cm' : ∀ q, q < 512 → Km (0 + 1 + q) = .int .u8 (t q) := cm
        have hk1'' : Kh (0 + 1) = .int .i64 (N : Nat) := hk1'
        (repeat first|refine zG ?_|(refine LS.nilO ?_;intro nq hnq hltq;try refine zU ?_)|(refine MS.new ?_;intro bq hbq hbqf;try refine zU ?_)|(refine MS.nil ?_;intro nq hnq hltq;have hlq:=hltq _ _ (Hp.get_eq _ _ _);clear hltq;try refine zU ?_)|(refine LS.nilQ ?_;try with_reducible intro nq hnq;try refine zU ?_))
        refine RS.lenSL (by exact rfl) hS3 ?_
        (repeat first|refine zG ?_|(refine LS.nilO ?_;intro nq hnq hltq;try refine zU ?_)|(refine MS.new ?_;intro bq hbq hbqf;try refine zU ?_)|(refine MS.nil ?_;intro nq hnq hltq;have hlq:=hltq _ _ (Hp.get_eq _ _ _);clear hltq;try refine zU ?_)|(refine LS.nilQ ?_;try with_reducible intro nq hnq;try refine zU ?_))
        obtain ⟨Y, hY⟩ : ∃ Y, Y = qmt h.p A m P t s N := ⟨_, rfl⟩
        have hc8 : fre P m s ≤ 8 := by omega
        refine CS.iter N (fun i => [(50, i64 (i : Nat)), (49, i64 (N : Nat)), (3, ptr n 0), (4, ptr (n + 1) 0), (6, ptr (n + 2) 0), (9, ptr b9 0), (10, .s sv), (11, .s pv), (12, ptr n7 0)])
          (fun i => (n7, ⟨513, modC (fre P m s : Nat) (cto Y (64 * i)), 36⟩) :: H3) (fun _ => True) (by (repeat first | exact trivial | refine And.intro rfl ?_)) (Drops.keepc rfl rfl (fun q hq => by
            (try dsimp only)
            rw [show 64 * 0 = 0 from rfl, cto_zero]
            show put1 (Zs.c [(1, SV.int .i64 0), (512, SV.int .u8 0)]) 0 (.int .i64 (fre P m s : Nat)) q = _
            unfold put1 modC
            by_cases e : q = 0
            · rw [if_pos e, if_pos e]
            · rw [if_neg e, if_neg e]
              show (if q < 1 then SV.int .i64 0 else SV.int .u8 0) = _
              rw [if_neg (by omega)]) (Drops.refl _ _)) trivial ?_
        intro i n8 hi hn8 _
        (repeat first|refine zG ?_|(refine LS.nilO ?_;intro nq hnq hltq;try refine zU ?_)|(refine MS.new ?_;intro bq hbq hbqf;try refine zU ?_)|(refine MS.nil ?_;intro nq hnq hltq;have hlq:=hltq _ _ (Hp.get_eq _ _ _);clear hltq;try refine zU ?_)|(refine LS.nilQ ?_;try with_reducible intro nq hnq;try refine zU ?_))
        refine zI ?_ ?_<;>intro h8
        · have hi' : i < N := by omega
          (repeat first|refine zG ?_|(refine LS.nilO ?_;intro nq hnq hltq;try refine zU ?_)|(refine MS.new ?_;intro bq hbq hbqf;try refine zU ?_)|(refine MS.nil ?_;intro nq hnq hltq;have hlq:=hltq _ _ (Hp.get_eq _ _ _);clear hltq;try refine zU ?_)|(refine LS.nilQ ?_;try with_reducible intro nq hnq;try refine zU ?_))
          refine RS.lenSL (by exact rfl) (hS3.keep (Hp.get_ne _ _ (by omega))) ?_
          (repeat first|refine zG ?_|(refine LS.nilO ?_;intro nq hnq hltq;try refine zU ?_)|(refine MS.new ?_;intro bq hbq hbqf;try refine zU ?_)|(refine MS.nil ?_;intro nq hnq hltq;have hlq:=hltq _ _ (Hp.get_eq _ _ _);clear hltq;try refine zU ?_)|(refine LS.nilQ ?_;try with_reducible intro nq hnq;try refine zU ?_))
          refine CS.iter (fre P m s) (fun k => [(55, i64 (k : Nat)), (54, i64 (fre P m s : Nat)), (53, .s pv), (13, i64 (i : Nat)), (50, i64 (i : Nat)), (49, i64 (N : Nat)), (3, ptr n 0), (4, ptr (n + 1) 0), (6, ptr (n + 2) 0), (9, ptr b9 0), (10, .s sv), (11, .s pv), (12, ptr n7 0)])
            (fun k => (n7, ⟨513, modC (fre P m s : Nat) (cto Y (64 * i + 8 * k)), 36⟩) :: H3) (fun _ => True) (by (repeat first | exact trivial | refine And.intro rfl ?_)) (Drops.refl _ _) trivial ?_
          intro kk n9 hkk hn9 _
          (repeat first|refine zG ?_|(refine LS.nilO ?_;intro nq hnq hltq;try refine zU ?_)|(refine MS.new ?_;intro bq hbq hbqf;try refine zU ?_)|(refine MS.nil ?_;intro nq hnq hltq;have hlq:=hltq _ _ (Hp.get_eq _ _ _);clear hltq;try refine zU ?_)|(refine LS.nilQ ?_;try with_reducible intro nq hnq;try refine zU ?_))
          refine zI ?_ ?_<;>intro h9
          · have hkk' : kk < fre P m s := by omega
            have hpl := frp_lt P m s kk hkk'
            obtain ⟨po, pcap, kp, hpv, gp, sp, pm, cq⟩ : ∃ o cap k, pv = .slc pb o (fre P m s) cap ∧ H3.get pb = some k ∧ o + cap ≤ k.size ∧ fre P m s ≤ cap ∧ ∀ i, i < fre P m s → k.c (o + i) = .int .i64 (frp P m s i : Nat) := by
              rcases hS3 with ⟨_, q0⟩ | q
              · omega
              · exact q
            subst hpv
            have pc1 : kp.c (po + kk * 1) = .int .i64 (frp P m s kk : Nat) := by rw [Nat.mul_one]; exact cq kk hkk'
            have hpb7 : pb ≠ n7 := by omega
            have hres : isRes h.p 8 (fun y => t (64 * i + 8 * frp P m s kk + y)) := fun x hx => (hmod.1.res ht) _ (by omega)
            (repeat first|refine zG ?_|(refine LS.nilO ?_;intro nq hnq hltq;try refine zU ?_)|(refine MS.new ?_;intro bq hbq hbqf;try refine zU ?_)|(refine MS.nil ?_;intro nq hnq hltq;have hlq:=hltq _ _ (Hp.get_eq _ _ _);clear hltq;try refine zU ?_)|(refine LS.nilQ ?_;try with_reducible intro nq hnq;try refine zU ?_))
            refine CS.tailLo _ (List.Mem.head _) ?_; dsimp only [List.take, List.drop]
            (repeat first|refine zG ?_|(refine LS.nilO ?_;intro nq hnq hltq;try refine zU ?_)|(refine MS.new ?_;intro bq hbq hbqf;try refine zU ?_)|(refine MS.nil ?_;intro nq hnq hltq;have hlq:=hltq _ _ (Hp.get_eq _ _ _);clear hltq;try refine zU ?_)|(refine LS.nilQ ?_;try with_reducible intro nq hnq;try refine zU ?_))
            refine LS.callQ (.arr 8 (bys (rdk h.p A (fun y => t (64 * i + 8 * frp P m s kk + y)) m))) rfl (fun n' hn' => FnS.args (concs_cons (conc_arr (fun q hq => ?_)) rfl) (field_rest h.p (s : Nat) A m bs sv (fun y => t (64 * i + 8 * frp P m s kk + y)) _ _ hp (by omega) (V3.keep (Hp.get_ne _ _ (by omega))) (fun i hi => rr.res i hi) (fun i hi => by rw [rr.fsn hi]; exact rr.lt i hi) (fun x hx => ?_))) ?_
            · exact c9 q hq
            · exact hres x hx
            (repeat first|refine zG ?_|(refine LS.nilO ?_;intro nq hnq hltq;try refine zU ?_)|(refine MS.new ?_;intro bq hbq hbqf;try refine zU ?_)|(refine MS.nil ?_;intro nq hnq hltq;have hlq:=hltq _ _ (Hp.get_eq _ _ _);clear hltq;try refine zU ?_)|(refine LS.nilQ ?_;try with_reducible intro nq hnq;try refine zU ?_))
            refine LS.callQ (.arr 8 (bys (pck (rdk h.p A (fun y => t (64 * i + 8 * frp P m s kk + y)) m) (frp P m s) (fre P m s)))) rfl (fun n' hn' => impl_picked _ _ _ pb _ _ _ hc8 (isRes.by (rdk_res hp.1 hres m) hp.2) (.inr ⟨po, pcap, kp, rfl, by rw [Hp.get_ne _ _ (by omega)]; exact gp, sp, pm, cq⟩) (fun j hj => by have := frp_lt P m s j hj; omega) (by omega)) ?_
            (repeat first|refine zG ?_|(refine LS.nilO ?_;intro nq hnq hltq;try refine zU ?_)|(refine MS.new ?_;intro bq hbq hbqf;try refine zU ?_)|(refine MS.nil ?_;intro nq hnq hltq;have hlq:=hltq _ _ (Hp.get_eq _ _ _);clear hltq;try refine zU ?_)|(refine LS.nilQ ?_;try with_reducible intro nq hnq;try refine zU ?_))
            refine ⟨by omega, by (repeat first | exact trivial | refine And.intro rfl ?_), Drops.keepc rfl rfl (fun q hq => modC_row (fun q => ?_) q) (Drops.refl _ _), trivial⟩
            rw [show 64 * i + 8 * (kk + 1) = 64 * i + 8 * kk + 8 by omega]
            exact cto_row (fun y hy => by rw [hY, qmt_row hi' hkk' (by omega) hy]) q
          · obtain rfl : fre P m s = kk := by omega
            (repeat first|refine zG ?_|(refine LS.nilO ?_;intro nq hnq hltq;try refine zU ?_)|(refine MS.new ?_;intro bq hbq hbqf;try refine zU ?_)|(refine MS.nil ?_;intro nq hnq hltq;have hlq:=hltq _ _ (Hp.get_eq _ _ _);clear hltq;try refine zU ?_)|(refine LS.nilQ ?_;try with_reducible intro nq hnq;try refine zU ?_))
            exact ⟨by omega, by (repeat first | exact trivial | refine And.intro rfl ?_), Drops.keepc rfl rfl (fun q hq => by rw [cto_more (n := 64 * i + 8 * fre P m s) (n' := 64 * (i + 1)) (by omega) (fun q h1 h2 => by rw [hY]; exact qmt_out (.inr (by omega)))]) (Drops.refl _ _), trivial⟩
        · obtain rfl : N = i := by omega
          (repeat first|refine zG ?_|(refine LS.nilO ?_;intro nq hnq hltq;try refine zU ?_)|(refine MS.new ?_;intro bq hbq hbqf;try refine zU ?_)|(refine MS.nil ?_;intro nq hnq hltq;have hlq:=hltq _ _ (Hp.get_eq _ _ _);clear hltq;try refine zU ?_)|(refine LS.nilQ ?_;try with_reducible intro nq hnq;try refine zU ?_))
          refine ⟨.tup [.arr 513 (qmV h (s : Nat) t L k), i64 (k5 (qok h (s : Nat) t L k) (qgd h (s : Nat) t L k))], H, conc_tup2 (conc_arr (fun q hq' => ?_)) (by rw [k5_0 hq hgd]), Drops.drop (by omega) (hf _ (by omega)) (Drops.low hf (fun x hx => by rw [Hp.get_set_other _ (by omega)]; exact lo3 x hx)), rfl, rfl⟩
          simp only [Nat.zero_add]
          unfold qmV
          rw [tb_true ⟨hq, hgd⟩, hrd]
          show modC (fre P m s : Nat) (cto Y (64 * N)) q = modC (fre P m s : Nat) (qmt h.p A m P t s h.N) q
          rw [hN, ← hY]
          unfold modC
          by_cases e : q = 0
          · rw [if_pos e, if_pos e]
          · rw [if_neg e, if_neg e]
            refine congrArg (SV.int .u8) ?_
            unfold cto
            by_cases e2 : q - 1 < 64 * N
            · rw [if_pos e2]
            · rw [if_neg e2, hY, qmt_out (.inl (by omega))]
  · rw [cd_false hq]
    (repeat first|refine zG ?_|(refine LS.nilO ?_;intro nq hnq hltq;try refine zU ?_)|(refine MS.new ?_;intro bq hbq hbqf;try refine zU ?_)|(refine MS.nil ?_;intro nq hnq hltq;have hlq:=hltq _ _ (Hp.get_eq _ _ _);clear hltq;try refine zU ?_)|(refine LS.nilQ ?_;try with_reducible intro nq hnq;try refine zU ?_))
    exact ⟨.tup [.arr 513 (qmV h d t L k), i64 (k5 (qok h d t L k) (qgd h d t L k))], H, conc_tup2 (conc_arr (fun q hq' => by unfold qmV; rw [tb_false (fun z => hq z.1)]; first | exact modZ q hq' | (simp only [Nat.zero_add]; exact modZ q hq'))) (by rw [k5_1 hq]), by exact zD, rfl, rfl⟩

end Go.Proofs.YtkmfdhicjaccaaaGreat
