/- Generated sub Hopf algebras, the reference's. -/
import Derived.Test.YtideblodkkgodaaGreatJbs
set_option linter.unusedSectionVars false
set_option linter.unusedVariables false
set_option linter.unusedSimpArgs false

namespace Go.V

variable [BW]

set_option linter.unusedSimpArgs false

set_option linter.unusedVariables false

/-- A list behind another one. -/
def joinL (m : Nat) (I I2 : Nat → Nat → Int) : Nat → Nat → Int := fun i => if i < m then I i else I2 (i - m)

section

variable {P : Program} {N mm : Nat} {e : Env} {H F : Hp} {n : Nat} {d : Option Nat} {K : Env → Hp → Prop}

/-- A list appended to a list. -/
theorem ST.appL {t : TypeId} {x y : X} {v v2 : SV} {m m2 b b2 : Nat} {I I2 : Nat → Nat → Int} {z : Zs} (hE : Ext F H)
    (hx : x.ev e = some (.s v)) (hy : y.ev e = some (.s v2)) (hV : VL H v m I b) (hV2 : VL H v2 m2 I2 b2) (hm : m + m2 ≤ 4000000) (hF : F.get b = none)
    (h : ∀ v' b' H', VL H' v' (m + m2) (joinL m I I2) b' → (b' = b ∨ n ≤ b' ∧ H.get b' = none) → (∀ x, x ≠ b' → H'.get x = H.get x) → Ext F H' → K (putD d (.s v') e) H') : ST P N mm ⟨d, none, .app t 8 8 z x y⟩ e H F n K := by
  refine ST.run rfl ?_
  intro n' q1 hfr o h1 w0 w1 a q3 hag
  obtain ⟨o1, cap, k1, rfl, hk1, ho, hmc, hc⟩ := hV
  obtain ⟨o2, cap2, k2, rfl, hk2, ho2, hmc2, hc2⟩ := hV2
  refine run_app (K := fun e' H' _ => Ext F H' ∧ K e' H') (len2 := m2) (cap2 := cap2) (c := fun i => .int .u8 (I (i / 8) (i % 8))) (c2 := fun i => .int .u8 (I2 (i / 8) (i % 8))) hx hy (.inr ⟨b, o1, k1, rfl, hk1, ho, hmc, fun i hi => ?_⟩) (.inr ⟨b2, o2, k2, rfl, hk2, ho2, hmc2, fun i hi => ?_⟩) (by omega) (by omega) (fun hle => ⟨fun b' o' k' hee hk' => ?_, fun hee => by cases hee⟩) (fun hlt cap' hcap => ?_) o h1 w0 w1 a q3 hag
  · show _ = SV.int IntKind.u8 (I (i / 8) (i % 8))
    rw [← hc (i / 8) (i % 8) (by omega) (by omega), show i / 8 * 8 + i % 8 = i by omega]
  · show _ = SV.int IntKind.u8 (I2 (i / 8) (i % 8))
    rw [← hc2 (i / 8) (i % 8) (by omega) (by omega), show i / 8 * 8 + i % 8 = i by omega]
  · cases hee
    rw [hk1] at hk'
    cases hk'
    refine ⟨hE.setF _ hF, h _ b _ ⟨o1, cap, _, rfl, Hp.get_set_self _ hk1, ho, hle, fun i x hi hx => ?_⟩ (.inl rfl) (fun x hx => Hp.get_set_other _ (fun q => hx q.symm)) (hE.setF _ hF)⟩
    (try dsimp only)
    unfold splice joinL
    by_cases e1 : i < m
    · rw [if_neg (by omega), if_pos e1]
      exact hc i x e1 hx
    · rw [if_pos (by omega), if_neg e1]
      show SV.int IntKind.u8 (I2 ((o1 + (i * 8 + x) - (o1 + m * 8)) / 8) ((o1 + (i * 8 + x) - (o1 + m * 8)) % 8)) = _
      rw [show (o1 + (i * 8 + x) - (o1 + m * 8)) / 8 = i - m by omega, show (o1 + (i * 8 + x) - (o1 + m * 8)) % 8 = x by omega]
  · have hE2 : ∀ blk, Ext F ((n', blk) :: H) := fun blk b' k' hb' => by
      have hne : n' ≠ b' := by intro e1; subst e1; have := hE _ _ hb'; rw [hfr _ (Nat.le_refl _)] at this; cases this
      rw [Hp.get_ne _ _ hne]; exact hE b' k' hb'
    refine ⟨hE2 _, h _ n' _ ⟨0, cap', _, rfl, Hp.get_eq _ _ _, by (try dsimp only); omega, hcap, fun i x hi hx => ?_⟩ (.inr ⟨q1, hfr _ (Nat.le_refl _)⟩) (fun x hx => Hp.get_ne _ _ (fun q => hx q.symm)) (hE2 _)⟩
    (try dsimp only)
    unfold joinC joinL
    rw [Nat.zero_add]
    by_cases e1 : i < m
    · rw [if_pos (by omega), if_pos (by omega), if_pos e1]
      show SV.int IntKind.u8 (I ((i * 8 + x) / 8) ((i * 8 + x) % 8)) = _
      rw [show (i * 8 + x) / 8 = i by omega, show (i * 8 + x) % 8 = x by omega]
    · rw [if_pos (by omega), if_neg (by omega), if_neg e1]
      show SV.int IntKind.u8 (I2 ((i * 8 + x - m * 8) / 8) ((i * 8 + x - m * 8) % 8)) = _
      rw [show (i * 8 + x - m * 8) / 8 = i - m by omega, show (i * 8 + x - m * 8) % 8 = x by omega]

end

/-- The space of a reduced list is a sub Hopf algebra. -/
def subH (h : HT) (a : Nat) (A : Nat → Nat → Int) (d : Nat) : Prop :=
  spn h.p A d h.u ∧ (∀ i k, i < d → k < d → spn h.p A d (pr h.p h.m (A i) (A k) a)) ∧ (∀ i, i < d → spn h.p A d (app h.p h.s (A i))) ∧ legIn h a A d

theorem app_cong {p : Int} {f v w : Nat → Int} (h : ∀ x, x < 8 → v x = w x) : app p f v = app p f w := by
  funext q; unfold app; rw [sm_congr (fun i hi => by rw [h i hi])]

theorem pr_cong8 {p : Int} {m v v' w w' : Nat → Int} {a : Nat} (ha : a ≤ 8) (hv : ∀ x, x < 8 → v x = v' x) (hw : ∀ x, x < 8 → w x = w' x) : pr p m v w a = pr p m v' w' a := by
  funext q; exact pr_congr (fun i hi => by rw [hv i (by omega)]) (fun i hi => by rw [hw i (by omega)]) q

theorem subH.sprod {h : HT} {a d d' : Nat} {A B : Nat → Nat → Int} {P P' : Nat → Nat} (hp : 2 ≤ h.p) (ha : a ≤ 8) (rA : RR h.p A d P) (rB : RR h.p B d' P') (hs : Go.V.same h.p A d B d') (hB : subH h a B d') : ∀ i k, i < d → k < d → spn h.p B d' (pr h.p h.m (A i) (A k) a) := fun i k hi hk => by
  obtain ⟨e1, e2⟩ := rA.same hp rB hs
  rw [pr_cong8 ha (e2 i hi).2 (e2 k hk).2]
  exact hB.2.1 i k (by omega) (by omega)

theorem subH.santi {h : HT} {a d d' : Nat} {A B : Nat → Nat → Int} {P P' : Nat → Nat} (hp : 2 ≤ h.p) (rA : RR h.p A d P) (rB : RR h.p B d' P') (hs : Go.V.same h.p A d B d') (hB : subH h a B d') : ∀ i, i < d → spn h.p B d' (app h.p h.s (A i)) := fun i hi => by
  obtain ⟨e1, e2⟩ := rA.same hp rB hs
  rw [app_cong (e2 i hi).2]
  exact hB.2.2.1 i (by omega)

theorem subH.move {h : HT} {a d d' : Nat} {A B : Nat → Nat → Int} {P P' : Nat → Nat} (hp : 2 ≤ h.p) (ha : a ≤ 8) (rA : RR h.p A d P) (rB : RR h.p B d' P') (hs : Go.V.same h.p A d B d') (hB : subH h a B d') : subH h a A d :=
  ⟨sub_spn hs.2 hB.1, fun i k hi hk => sub_spn hs.2 (subH.sprod hp ha rA rB hs hB i k hi hk), fun i hi => sub_spn hs.2 (subH.santi hp rA rB hs hB i hi), fun i q hi hq => sub_spn hs.2 (legIn.same hp rA rB hs hB.2.2.2 i q hi hq)⟩

end Go.V

namespace Go.Proofs.YtideblodkkgodaaGreat

open Go.V

variable [BW]

set_option linter.unusedSimpArgs false

set_option linter.unusedVariables false

set_option maxHeartbeats 4000000

/-- spec.l07In -/
def ir38 : Cd := (.seq (.reg [⟨some 4,none,.box 32 (.t 1)⟩,⟨some 6,none,.mov (.c (.bool false))⟩]) (.seq (.reg [⟨some 7,none,.mov (.t 0)⟩,⟨some 8,none,.ld (some 8) (.t 4)⟩,⟨some 9,none,.mov (.t 2)⟩,⟨some 10,none,.call 40 [(.t 7),(.t 8),(.t 9)]⟩,⟨some 11,none,.call 43 [(.t 10)]⟩,⟨some 6,none,.mov (.t 11)⟩]) .ret))

set_option maxRecDepth 100000 in
theorem tr38 : trFn Tryz.prog Tryz.f38 = some (12, ir38, [.tmp 6]) := by kernel_rfl

theorem spec_l07In (p : Int) (A : Nat → Nat → Int) (m b : Nat) (sv : SV) (v : Nat → Int) (H : Hp) (n : Nat) (hp : 2 ≤ p ∧ p ≤ 31) (hm : m ≤ 1000000) (hV : VL H sv m A b) (hA : ∀ i, i < m → isRes p 8 (A i)) (hlt : ∀ i, i < m → fsn (A i) 8 < 8) (hv : isRes p 8 v) :
    FnS Tryz.prog 38 [i64 p, .arr 8 (bys v), .s sv] H n (fun r H' _ => r = bl (tb (isIn p A m v)) ∧ H' = H) := by
  refine FnS.of_body Tryz.func38 tr38 (by simp) (fun hf => ?_)
  dsimp only [argEnv]
  unfold ir38
  have hbb := hV.bound hf
  (refine zG ?_)
  refine RS.call rfl ((FnS.args (concs_cons rfl (concs_cons (conc_arr (fun q hq => by first | rfl | (simp only [Nat.zero_add]; done) | (simp only [Nat.zero_add]; rfl))) rfl)) (spec_l01By p A m b sv v _ _ hp hm (hV.keep (by simp (disch := omega) only [Hp.get_ne])) hA hlt hv)).mono ?_)
  rintro r H' n2 hn2 ⟨rfl, rfl⟩
  (repeat first|refine zG ?_|(refine LS.nilO ?_;intro nq hnq hltq;try refine zU ?_)|(refine MS.new ?_;intro bq hbq hbqf;try refine zU ?_)|(refine MS.nil ?_;intro nq hnq hltq;have hlq:=hltq _ _ (Hp.get_eq _ _ _);clear hltq;try refine zU ?_)|(refine LS.nilQ ?_;try with_reducible intro nq hnq;try refine zU ?_))
  refine RS.call rfl ((spec_l01Zero (rdk p A v m) _ _).mono ?_)
  rintro r H' n3 hn3 ⟨rfl, rfl⟩
  (refine zG ?_)
  exact ⟨_, H, rfl, by exact zD, rfl, rfl⟩

/-- spec.l07Generated -/
def ir58 : Cd := (.seq (.reg [⟨some 2,none,.box 38 (.t 0)⟩,⟨some 4,none,.mov (.c .nils)⟩]) (.seq (.drwn (.seg 0 (.seg 1 (.seg 2 (.seg 4 (.seg 3 (.seg 5 (.seg 6 (.seg 7 .done)))))))) [⟨some 9,none,.ld (some 1106) (.t 2)⟩,⟨some 10,none,.fa 2 (.t 2)⟩,⟨some 11,none,.ld (some 8) (.t 10)⟩,⟨some 12,none,.bsl 32 1 8 [(8,(.int .u8 0))] [(0,8,(.t 11))]⟩,⟨some 13,none,.mov (.t 1)⟩,⟨some 14,none,.app 32 8 8 [(8,(.int .u8 0))] (.t 12) (.t 13)⟩,⟨some 15,none,.call 80 [(.t 9),(.t 14)]⟩,⟨some 5,none,.mov (.t 15)⟩]) (.block 0 (.loop (.block 1 (.seq (.reg [⟨some 16,none,.mov (.t 5)⟩,⟨some 6,none,.mov (.t 16)⟩]) (.seq (.seq (.reg [⟨some 7,none,.mov (.c (.int .i64 0))⟩]) (.block 2 (.loop (.seq (.seq (.reg [⟨some 17,none,.mov (.t 7)⟩,⟨some 18,none,.mov (.t 5)⟩,⟨some 19,none,.len (.t 18)⟩,⟨some 20,none,.bin .lss (.t 17) (.t 19)⟩]) (.cond (.t 20) .skip (.exit 2))) (.seq (.block 3 (.seq (.drwo true [14] [0,1,2,3,4,5,6,7,8,9,10,11,12,13,14,15] [⟨some 23,none,.fa 0 (.t 2)⟩,⟨some 24,none,.ld none (.t 23)⟩,⟨some 25,none,.mov (.t 6)⟩,⟨some 26,none,.fa 0 (.t 2)⟩,⟨some 27,none,.ld none (.t 26)⟩,⟨some 28,none,.fa 1 (.t 2)⟩,⟨some 29,none,.ld none (.t 28)⟩,⟨some 30,none,.fa 1042 (.t 2)⟩,⟨some 31,none,.ld (some 64) (.t 30)⟩,⟨some 32,none,.mov (.t 5)⟩,⟨some 33,none,.mov (.t 7)⟩,⟨some 34,none,.isl 8 (.t 32) (.t 33)⟩,⟨some 35,none,.ld (some 8) (.t 34)⟩,⟨some 36,none,.call 46 [(.t 27),(.t 29),(.t 31),(.t 35)]⟩,⟨some 37,none,.call 18 [(.t 24),(.t 25),(.t 36)]⟩,⟨some 6,none,.mov (.t 37)⟩]) (.seq (.reg [⟨some 8,none,.mov (.c (.int .i64 0))⟩]) (.block 4 (.loop (.seq (.seq (.reg [⟨some 38,none,.mov (.t 8)⟩,⟨some 39,none,.mov (.t 5)⟩,⟨some 40,none,.len (.t 39)⟩,⟨some 41,none,.bin .lss (.t 38) (.t 40)⟩]) (.cond (.t 41) .skip (.exit 4))) (.seq (.block 5 (.drwo true [14] [0,1,2,3,5,6,7,8,9,10,11,12,4,13,14,15] [⟨some 44,none,.fa 0 (.t 2)⟩,⟨some 45,none,.ld none (.t 44)⟩,⟨some 46,none,.mov (.t 6)⟩,⟨some 47,none,.ld (some 1106) (.t 2)⟩,⟨some 48,none,.call 20 [(.t 47)]⟩,⟨some 49,none,.mov (.t 5)⟩,⟨some 50,none,.mov (.t 7)⟩,⟨some 51,none,.isl 8 (.t 49) (.t 50)⟩,⟨some 52,none,.ld (some 8) (.t 51)⟩,⟨some 53,none,.mov (.t 5)⟩,⟨some 54,none,.mov (.t 8)⟩,⟨some 55,none,.isl 8 (.t 53) (.t 54)⟩,⟨some 56,none,.ld (some 8) (.t 55)⟩,⟨some 57,none,.call 19 [(.t 48),(.t 52),(.t 56)]⟩,⟨some 58,none,.call 18 [(.t 45),(.t 46),(.t 57)]⟩,⟨some 6,none,.mov (.t 58)⟩])) (.reg [⟨some 42,none,.mov (.t 8)⟩,⟨some 43,none,.bin .add (.t 42) (.c (.int .i64 1))⟩,⟨some 8,none,.mov (.t 43)⟩])))))))) (.reg [⟨some 21,none,.mov (.t 7)⟩,⟨some 22,none,.bin .add (.t 21) (.c (.int .i64 1))⟩,⟨some 7,none,.mov (.t 22)⟩])))))) (.seq (.reg [⟨some 59,none,.ld (some 1106) (.t 2)⟩,⟨some 60,none,.mov (.t 6)⟩,⟨some 61,none,.call 80 [(.t 59),(.t 60)]⟩,⟨some 6,none,.mov (.t 61)⟩]) (.seq (.seq (.reg [⟨some 62,none,.mov (.t 6)⟩,⟨some 63,none,.len (.t 62)⟩,⟨some 64,none,.mov (.t 5)⟩,⟨some 65,none,.len (.t 64)⟩,⟨some 66,none,.bin .eql (.t 63) (.t 65)⟩]) (.cond (.t 66) (.seq (.reg [⟨some 67,none,.mov (.t 5)⟩,⟨some 4,none,.mov (.t 67)⟩]) .ret) .skip)) (.reg [⟨some 68,none,.mov (.t 6)⟩,⟨some 5,none,.mov (.t 68)⟩]))))))))))

set_option maxRecDepth 100000 in
theorem tr58 : trFn Tryz.prog Tryz.f58 = some (69, ir58, [.tmp 4]) := by kernel_rfl

theorem spec_l07Generated (h : HT) (a : Nat) (L : Nat → Nat → Int) (k lb : Nat) (lv : SV) (K : Nat → SV) (H : Hp) (n : Nat) (hS : HS h a) (hp : isP h.p = true) (hK : h.At K) (hB : h.By) (hu : isRes h.p 8 h.u) (hk : k ≤ 900000) (hL : VL H lv k L lb) (hLr : ∀ i, i < k → isRes h.p 8 (L i)) :
    FnS Tryz.prog 58 [.arr 1106 K, .s lv] H n (fun r H' n' => ∃ sv A d P b, r = .s sv ∧ VL H' sv d A b ∧ RR h.p A d P ∧ sub h.p L k A d ∧ subH h a A d ∧ (∀ R c PR, RR h.p R c PR → same h.p R c L k → subH h a R c → same h.p A d R c) ∧ n ≤ b ∧ b < n' ∧ (∀ x, n' ≤ x → H'.get x = none) ∧ ∀ x, x < n → H'.get x = H.get x) := by
  have hb := hS.hp
  have ha := hS.ha
  have k0 := hK.p
  have k1 := hK.n
  rw [hS.hn] at k1
  have k1' : K (0 + 1) = .int .i64 (a : Nat) := k1
  have k6 := hK.s
  refine FnS.of_body Tryz.func58 tr58 (by simp) (fun hf => ?_)
  dsimp only [argEnv]
  unfold ir58
  have hlb := hL.bound hf
  (refine zG ?_)
  obtain ⟨HX, hHX⟩ : ∃ HX : Hp, HX = (n, ⟨1106, K, 38⟩) :: H := ⟨_, rfl⟩
  rw [← hHX]
  have g0 : HX.get n = some ⟨1106, K, 38⟩ := by rw [hHX]; exact Hp.get_eq _ _ _
  have lX : ∀ x, x < n → HX.get x = H.get x := fun x hx => by rw [hHX, Hp.get_ne _ _ (by omega)]
  have fX : ∀ x, n + 1 ≤ x → HX.get x = none := fun x hx => by rw [hHX, Hp.get_ne _ _ (by omega)]; exact hf x (by omega)
  refine CS.ordN HX (Ext.refl _) ?_
  refine FT.seg rfl (ST.ldn (c := K) (by exact rfl) g0 (by (try dsimp only); omega) (by funext x; rw [Nat.zero_add]) ?_)
  refine FT.seg rfl (ST.fa (by exact rfl) ?_)
  refine FT.seg rfl (ST.ldn (c := fun j => K (2 + j)) (by exact rfl) g0 (by (try dsimp only); omega) (by funext x; rw [Nat.zero_add]) ?_)
  refine FT.seg rfl (ST.mov (by exact rfl) ?_)
  refine FT.seg rfl (ST.bsl (Ext.refl _) rfl ?_)
  intro b1 hb1 hf1
  refine FT.seg rfl (ST.appL (I := fun _ => h.u) (I2 := L) (m := 1) (m2 := k) (b := b1) (b2 := lb) ((Ext.refl _).push _ (hf1 b1 (Nat.le_refl _))) (by exact rfl) (by exact rfl) ⟨0, 1, _, rfl, Hp.get_eq _ _ _, by (try dsimp only); omega, Nat.le_refl _, fun i x hi hx => by
    (try dsimp only)
    unfold splice
    rw [if_pos (by omega), show 0 + (i * 8 + x) - 0 = x by omega]
    exact hK.u x hx⟩ (hL.keep (by rw [Hp.get_ne _ _ (by omega), lX lb hlb])) (by omega) (hf1 b1 (Nat.le_refl _)) ?_)
  intro v2 b2 H2 V2 hb2 lo2 hE2
  refine FT.seg rfl (ST.call (R := fun r H' => ∃ sv A d P b, r = .s sv ∧ VL H' sv d A b ∧ RR h.p A d P ∧ sub h.p (joinL 1 (fun _ => h.u) L) (1 + k) A d ∧ legIn h a A d ∧ (∀ R c PR, RR h.p R c PR → same h.p R c (joinL 1 (fun _ => h.u) L) (1 + k) → legIn h a R c → same h.p A d R c) ∧ n + 1 ≤ b ∧ ∀ x, x < n + 1 → H'.get x = H2.get x) rfl (fun n' h1 h2 => (spec_l07Closed h a (joinL 1 (fun _ => h.u) L) (1 + k) b2 v2 K H2 n' hS hp hK hB (by omega) V2 (fun i hi => by unfold joinL; split; exact hu; exact hLr _ (by omega))).mono (fun r H' _ _ q => by
    obtain ⟨sv, A, d, P, b, q1, q2, q3, q4, q5, q6, q7, q8, q9, q10⟩ := q
    exact ⟨⟨sv, A, d, P, b, q1, q2, q3, q4, q5, q6, by omega, fun x hx => q10 x (by omega)⟩, fun b k hb => by rw [q10 b (getlt h2 (hE2 b k hb))]; exact hE2 b k hb⟩)) ?_)
  rintro r H3 ⟨sv, A0, d0, P0, b0, rfl, V0, rr0, sub0, cl0, up0, hb0, lo3⟩ hE3
  refine FT.seg rfl (ST.mov (by exact rfl) ?_)
  refine FT.done ?_
  intro n3 hn3 hlt3
  dsimp only [Ex.then, Ex.inBlock, putD, Env.put]
  have hfr3 : ∀ x, n3 ≤ x → H3.get x = none := fun x hx => by
    cases e : H3.get x with
    | none => rfl
    | some k => exact absurd (hlt3 x k e) (by omega)
  have t0 : H3.get n = some ⟨1106, K, 38⟩ := hE3 _ _ g0
  have lo3 : ∀ x, x < n → H3.get x = H.get x := fun x hx => by rw [lo3 x (by omega), lo2 x (by omega), Hp.get_ne _ _ (by omega), lX x hx]
  have eL : ∀ i, joinL 1 (fun _ => h.u) L (1 + i) = L i := fun i => by unfold joinL; rw [if_neg (by omega), show 1 + i - 1 = i by omega]
  have e0 : joinL 1 (fun _ => h.u) L 0 = h.u := by unfold joinL; rw [if_pos (by omega)]
  have subL : sub h.p L k A0 d0 := fun i hi => by rw [← eL i]; exact sub0 (1 + i) (by omega)
  have hu0 : spn h.p A0 d0 h.u := by have := sub0 0 (by omega); rwa [e0] at this
  have upL : ∀ R c PR, RR h.p R c PR → Go.V.same h.p R c L k → subH h a R c → Go.V.same h.p A0 d0 R c := fun R c PR rR sR cR => up0 R c PR rR ⟨sub_trans sR.1 (fun i hi => by rw [← eL i]; exact spn_one (by omega)), fun i hi => by
    rcases Nat.eq_zero_or_pos i with e | e
    · rw [e, e0]; exact cR.1
    · rw [show i = 1 + (i - 1) by omega, eL]; exact sR.2 _ (by omega)⟩ cR.2.2.2
  refine CS.weak (e1 := [(2, ptr n 0), (5, .s sv)]) (H1 := H3) (by (repeat first | exact trivial | refine And.intro rfl ?_)) (Drops.refl _ _) ?_
  (refine zG ?_)
  refine CS.loop (fun kx e H2 n2 => ∃ v5 A d P b5, 8 - d ≤ kx ∧ e = [(2, ptr n 0), (5, .s v5)] ∧ VL H2 v5 d A b5 ∧ RR h.p A d P ∧ sub h.p L k A d ∧ spn h.p A d h.u ∧ (∀ R c PR, RR h.p R c PR → same h.p R c L k → subH h a R c → same h.p A d R c) ∧ n ≤ b5 ∧ b5 < n2 ∧ H2.get n = some ⟨1106, K, 38⟩ ∧ (∀ x, x < n → H2.get x = H.get x) ∧ ∀ x, n2 ≤ x → H2.get x = none) 8 ?_ ?_
  · exact ⟨sv, A0, d0, P0, b0, by omega, rfl, V0, rr0, subL, hu0, upL, by omega, V0.bound hfr3, t0, lo3, hfr3⟩
  clear t0 lo3 hfr3 V0 rr0 subL hu0 upL up0 sub0 cl0 hE3 hlt3 hE2 V2 lo2 hb2 hf1 hb1 lX fX g0
  rintro kx e H2 n2 hn2 ⟨v5, A, d, P, b5, hkx, rfl, V5, rr5, sub5, hu5, up5, hb5, hb5n, u0, lo2, hfr2⟩
  have hd8 := rr5.d8
  have hn2n := getlt hfr2 u0
  (refine zG ?_)
  refine CS.weak (e1 := [(7, i64 (((0 : Nat) : Int))), (2, ptr n 0), (5, .s v5), (6, .s v5)]) (H1 := H2) (by (repeat first | exact trivial | refine And.intro rfl ?_)) (Drops.refl _ _) ?_
  refine CS.loop (fun kx e H3 n3 => ∃ i v6 O e6 Q b6, i ≤ d ∧ kx = d - i ∧ e = [(7, i64 ((i : Nat))), (2, ptr n 0), (5, .s v5), (6, .s v6)] ∧ VL H3 v6 e6 O b6 ∧ RR h.p O e6 Q ∧ sub h.p A d O e6 ∧ (∀ i', i' < i → spn h.p O e6 (app h.p h.s (A i'))) ∧ (∀ i' k', i' < i → k' < d → spn h.p O e6 (pr h.p h.m (A i') (A k') a)) ∧ (∀ R c PR, RR h.p R c PR → same h.p A d R c → subH h a R c → sub h.p O e6 R c) ∧ (b6 = b5 ∨ n2 ≤ b6) ∧ b6 < n3 ∧ (∀ x, x < n2 → H3.get x = H2.get x) ∧ ∀ x, n3 ≤ x → H3.get x = none) d ?_ ?_
  · exact ⟨0, v5, A, d, P, b5, by omega, rfl, rfl, V5, rr5, sub_refl _ _ _, fun i hi => by omega, fun i k hi => by omega, fun R c PR rR sR cR => sR.1, .inl rfl, hb5n, fun x hx => rfl, hfr2⟩
  rintro kx e H3 n3 hn3 ⟨i, v6, O, e6, Q, b6, hi, rfl, rfl, V6, rr6, sub6, dS6, dM6, up6, hb6, hb6n, lo3, hfr3⟩
  have V5' : VL H3 v5 d A b5 := V5.keep (lo3 b5 hb5n)
  have u3 : H3.get n = some ⟨1106, K, 38⟩ := by rw [lo3 n hn2n]; exact u0
  have he8 := rr6.d8
  obtain ⟨o5, c5, K5, rfl, g5, ho5, hm5, hc5⟩ := id V5'
  obtain ⟨o6, c6, K6, rfl, g6, ho6, hm6, hc6⟩ := id V6
  (refine zG ?_)
  refine zI ?_ ?_<;>intro h2
  · have hi' : i < d := by omega
    have e9 : ∀ q, q < 8 → K5.c (o5 + i * 8 + q) = .int .u8 (A i q) := fun q hq => by rw [Nat.add_assoc]; exact hc5 i q hi' hq
    have hAb : isBy 8 (A i) := isRes.by (rr5.res i hi') hb.2
    (refine zG ?_)
    refine CS.tailLo _ (List.Mem.head _) ?_; dsimp only [List.take, List.drop]
    (refine zG ?_)
    refine LS.callQ (.arr 8 (bys (apk h.p h.s (A i) a))) rfl (fun n' hn' => FnS.args (concs_cons rfl (concs_cons rfl (concs_cons (conc_arr (fun q hq => by first | rfl | (simp only [Nat.zero_add]; done) | (simp only [Nat.zero_add]; rfl))) (concs_cons (conc_arr (fun q hq => by first | rfl | (simp only [Nat.zero_add]; done) | (simp only [Nat.zero_add]; rfl))) rfl)))) (spec_l01Apply h.p a h.s (A i) _ _ hb ha hB.s hAb)) ?_
    (repeat first|refine zG ?_|(refine LS.nilQ ?_;try with_reducible intro nq hnq;try refine zU ?_))
    refine RS.call rfl ((FnS.args (concs_cons rfl (concs_cons rfl (concs_cons (conc_arr (fun q hq => congrArg (SV.int .u8) (apk_mat ha (fun y h1 h2 => hS.sm y q h2 hq (.inl h1))))) rfl))) (spec_l01Put h.p O e6 b6 Q _ (app h.p h.s (A i)) _ _ hp V6 rr6 (fun x hx => modB _ hb.1))).mono ?_)
    rintro r H4 n4 hn4 ⟨v7, O7, e7, Q7, b7, rfl, V7, rr7, sm7, hb7, hb7n, hfr4, lo4⟩
    obtain ⟨p1, p2, p3⟩ := put_sub sm7
    (refine zG ?_)
    refine CS.weak (e1 := [(8, i64 (((0 : Nat) : Int))), (7, i64 ((i : Nat))), (2, ptr n 0), (5, .s (.slc b5 o5 d c5)), (6, .s v7)]) (H1 := H4) (by (repeat first | exact trivial | refine And.intro rfl ?_)) (Drops.refl _ _) ?_
    refine CS.loop (fun kx e H5 n5 => ∃ j v7 O7 e7 Q7 b7, j ≤ d ∧ kx = d - j ∧ e = [(8, i64 ((j : Nat))), (7, i64 ((i : Nat))), (2, ptr n 0), (5, .s (.slc b5 o5 d c5)), (6, .s v7)] ∧ VL H5 v7 e7 O7 b7 ∧ RR h.p O7 e7 Q7 ∧ sub h.p O e6 O7 e7 ∧ spn h.p O7 e7 (app h.p h.s (A i)) ∧ (∀ j', j' < j → spn h.p O7 e7 (pr h.p h.m (A i) (A j') a)) ∧ (∀ R c PR, RR h.p R c PR → same h.p A d R c → subH h a R c → sub h.p O7 e7 R c) ∧ (b7 = b5 ∨ n2 ≤ b7) ∧ b7 < n5 ∧ (∀ x, x < n3 → H5.get x = H3.get x) ∧ ∀ x, n5 ≤ x → H5.get x = none) d ?_ ?_
    · exact ⟨0, v7, O7, e7, Q7, b7, by omega, rfl, rfl, V7, rr7, p1, p2, fun j hj => by omega, fun R c PR rR sR cR => p3 R c (up6 R c PR rR sR cR) (subH.santi hb.1 rr5 rR sR cR i hi'), by rcases hb7 with e | e <;> omega, hb7n, fun x hx => lo4 x (by omega), hfr4⟩
    clear V7 rr7 sm7 hb7 hb7n hfr4 lo4 p1 p2 p3
    rintro kx e H5 n5 hn5 ⟨j, v7, O7, e7, Q7, b7, hj, rfl, rfl, V7, rr7, sub7, dS7, dM7, up7, hb7, hb7n, lo5, hfr5⟩
    have w5 : H5.get n = some ⟨1106, K, 38⟩ := by rw [lo5 n (by omega)]; exact u3
    have g55 : H5.get b5 = some K5 := by rw [lo5 b5 (by omega)]; exact g5
    (refine zG ?_)
    refine zI ?_ ?_<;>intro h3
    · have hj' : j < d := by omega
      have e10 : ∀ q, q < 8 → K5.c (o5 + j * 8 + q) = .int .u8 (A j q) := fun q hq => by rw [Nat.add_assoc]; exact hc5 j q hj' hq
      have hAj : isBy 8 (A j) := isRes.by (rr5.res j hj') hb.2
      (refine zG ?_)
      refine CS.tailLo _ (List.Mem.head _) ?_; dsimp only [List.take, List.drop]
      (refine zG ?_)
      refine LS.callQ (.arr 522 K) rfl (fun n' hn' => FnS.args (concs_cons (conc_arr (fun q hq => by first | rfl | (simp only [Nat.zero_add]; done) | (simp only [Nat.zero_add]; rfl))) rfl) (spec_l03Algebra K h _ _ hK)) ?_
      (refine zG ?_)
      refine LS.callQ (.arr 8 (bys (pr h.p h.m (A i) (A j) a))) rfl (fun n' hn' => FnS.args (concs_cons (conc_arr (fun q hq => rfl)) (concs_cons (conc_arr (fun q hq => by first | rfl | (simp only [Nat.zero_add]; done) | (simp only [Nat.zero_add]; rfl))) (concs_cons (conc_arr (fun q hq => by first | rfl | (simp only [Nat.zero_add]; done) | (simp only [Nat.zero_add]; rfl))) rfl))) (spec_l01Times h.p a h.m (A i) (A j) K _ _ hb ha k0 k1 hK.m hB.m hAb hAj)) ?_
      (repeat first|refine zG ?_|(refine LS.nilQ ?_;try with_reducible intro nq hnq;try refine zU ?_))
      refine RS.call rfl ((spec_l01Put h.p O7 e7 b7 Q7 v7 (pr h.p h.m (A i) (A j) a) _ _ hp V7 rr7 (pr_res hb.1 _ _ _ _ 8)).mono ?_)
      rintro r H6 n6 hn6 ⟨v8, O8, e8, Q8, b8, rfl, V8, rr8, sm8, hb8, hb8n, hfr6, lo6⟩
      obtain ⟨p1, p2, p3⟩ := put_sub sm8
      (refine zG ?_)
      exact ⟨d - (j + 1), [(8, i64 (((j + 1 : Nat) : Int))), (7, i64 ((i : Nat))), (2, ptr n 0), (5, .s (.slc b5 o5 d c5)), (6, .s v8)], H6, by omega, by (repeat first | exact trivial | refine And.intro rfl ?_), Drops.refl _ _, j + 1, v8, O8, e8, Q8, b8, by omega, rfl, rfl, V8, rr8, sub_trans sub7 p1, sub_spn p1 dS7, fun j2 hj2 => by
        by_cases e : j2 = j
        · rw [e]; exact p2
        · exact sub_spn p1 (dM7 j2 (by omega)), fun R c PR rR sR cR => p3 R c (up7 R c PR rR sR cR) (subH.sprod hb.1 ha rr5 rR sR cR i j hi' hj'), by rcases hb8 with e | e <;> omega, hb8n, fun x hx => by rw [lo6 x (by omega)]; exact lo5 x hx, hfr6⟩
    obtain rfl : d = j := by omega
    (refine zG ?_)
    exact ⟨d - (i + 1), [(7, i64 (((i + 1 : Nat) : Int))), (2, ptr n 0), (5, .s (.slc b5 o5 d c5)), (6, .s v7)], H5, by omega, by (repeat first | exact trivial | refine And.intro rfl ?_), Drops.refl _ _, i + 1, v7, O7, e7, Q7, b7, by omega, rfl, rfl, V7, rr7, sub_trans sub6 sub7, fun i2 hi2 => by
      by_cases e : i2 = i
      · rw [e]; exact dS7
      · exact sub_spn sub7 (dS6 i2 (by omega)), fun i2 k2 hi2 hk2 => by
      by_cases e : i2 = i
      · rw [e]; exact dM7 k2 hk2
      · exact sub_spn sub7 (dM6 i2 k2 (by omega) hk2), up7, hb7, hb7n, fun x hx => by rw [lo5 x (by omega)]; exact lo3 x hx, hfr5⟩
  obtain rfl : d = i := by omega
  (refine zG ?_)
  refine RS.call rfl ((FnS.args (concs_cons (conc_arr (fun q hq => by first | rfl | (simp only [Nat.zero_add]; done) | (simp only [Nat.zero_add]; rfl))) rfl) (spec_l07Closed h a O e6 b6 _ K _ _ hS hp hK hB (by omega) V6 (fun i hi => rr6.res i hi))).mono ?_)
  rintro r H4 n4 hn4 ⟨vB, B, eB, PB, bB, rfl, VB, rrB, subB, clB, upB, hbB, hbBn, hfr4, lo4⟩
  have heB := rrB.d8
  have g54 : H4.get b5 = some K5 := by rw [lo4 b5 (by omega)]; exact g5
  obtain ⟨oB, cB, KB, rfl, gB, hoB, hmB, hcB⟩ := id VB
  have sAB := sub_trans sub6 subB
  (refine zG ?_)
  refine zI ?_ ?_<;>intro h4
  · obtain rfl : eB = d := by omega
    have sf := RR.full hb.1 rr5 rrB sAB
    (refine zG ?_)
    exact ⟨.s (.slc b5 o5 eB c5), H4, rfl, Drops.refl _ _, _, A, eB, P, b5, rfl, ⟨o5, c5, K5, rfl, g54, ho5, hm5, hc5⟩, rr5, sub5, ⟨hu5, fun i k hi hk => sub_spn sf.2 (sub_spn subB (dM6 i k hi hk)), fun i hi => sub_spn sf.2 (sub_spn subB (dS6 i hi)), fun i q hi hq => sub_spn sf.2 (legIn.same hb.1 rr5 rrB sf clB i q hi hq)⟩, up5, hb5, by omega, hfr4, fun x hx => by rw [lo4 x (by omega), lo3 x (by omega)]; exact lo2 x hx⟩
  · have hle := RR.le hb.1 rr5 rrB sAB
    (refine zG ?_)
    exact ⟨8 - eB, [(2, ptr n 0), (5, .s (.slc bB oB eB cB))], H4, by omega, by (repeat first | exact trivial | refine And.intro rfl ?_), Drops.refl _ _, _, B, eB, PB, bB, Nat.le_refl _, rfl, VB, rrB, sub_trans sub5 sAB, sub_spn sAB hu5, fun R c PR rR sR cR => by
      have s1 := up5 R c PR rR sR cR
      exact upB R c PR rR ⟨sub_trans s1.2 sub6, up6 R c PR rR s1 cR⟩ cR.2.2.2, by omega, hbBn, by rw [lo4 n (by omega)]; exact u3, fun x hx => by rw [lo4 x (by omega), lo3 x (by omega)]; exact lo2 x hx, hfr4⟩

/-- spec.l07Sub -/
def ir37 : Cd := (.seq (.reg [⟨some 2,none,.box 38 (.t 0)⟩,⟨some 4,none,.mov (.c (.bool false))⟩]) (.seq (.reg [⟨some 5,none,.ld (some 1106) (.t 2)⟩,⟨some 6,none,.mov (.t 1)⟩,⟨some 7,none,.call 58 [(.t 5),(.t 6)]⟩,⟨some 8,none,.len (.t 7)⟩,⟨some 9,none,.mov (.t 1)⟩,⟨some 10,none,.len (.t 9)⟩,⟨some 11,none,.bin .eql (.t 8) (.t 10)⟩,⟨some 4,none,.mov (.t 11)⟩]) .ret))

set_option maxRecDepth 100000 in
theorem tr37 : trFn Tryz.prog Tryz.f37 = some (12, ir37, [.tmp 4]) := by kernel_rfl

theorem spec_l07Sub (h : HT) (a : Nat) (R : Nat → Nat → Int) (c rb : Nat) (P : Nat → Nat) (rv : SV) (K : Nat → SV) (H : Hp) (n : Nat) (hS : HS h a) (hp : isP h.p = true) (hK : h.At K) (hB : h.By) (hu : isRes h.p 8 h.u) (hV : VL H rv c R rb) (rr : RR h.p R c P) :
    FnS Tryz.prog 37 [.arr 1106 K, .s rv] H n (fun r H' _ => r = bl (tb (subH h a R c)) ∧ H' = H) := by
  have hb := hS.hp
  have ha := hS.ha
  have hc8 := rr.d8
  refine FnS.of_body Tryz.func37 tr37 (by simp) (fun hf => ?_)
  dsimp only [argEnv]
  unfold ir37
  have hrb := hV.bound hf
  (refine zG ?_)
  refine RS.call rfl ((FnS.args (concs_cons (conc_arr (fun q hq => by first | rfl | (simp only [Nat.zero_add]; done) | (simp only [Nat.zero_add]; rfl))) rfl) (spec_l07Generated h a R c rb rv K _ _ hS hp hK hB hu (by omega) (hV.keep (by simp (disch := omega) only [Hp.get_ne])) (fun i hi => rr.res i hi))).mono ?_)
  rintro r H2 n2 hn2 ⟨sv, A, d, PA, b, rfl, VA, rrA, subA, clA, upA, hbA, hbAn, hfr2, lo2⟩
  have hd8 := rrA.d8
  obtain ⟨o, cap, Kl, rfl, gl, ho, hm, hc⟩ := VA
  obtain ⟨o1, cap1, K1, rfl, g1, ho1, hm1, hc1⟩ := hV
  (refine zG ?_)
  refine ⟨_, H, rfl, Drops.low hf (fun x hx => by rw [lo2 x (by omega)]; simp (disch := omega) only [Hp.get_ne]), ?_, rfl⟩
  have key : d = c ↔ subH h a R c := ⟨fun e => by
    subst e
    have sf := RR.full hb.1 rr rrA subA
    exact subH.move hb.1 ha rr rrA sf clA, fun q => (rrA.same hb.1 rr (upA R c P rr ⟨sub_refl _ _ _, sub_refl _ _ _⟩ q)).1⟩
  by_cases e : d = c
  · rw [tb_true (key.1 e)]; subst e; first | rfl | simp
  · rw [tb_false (fun q => e (key.2 q))]
    first | (simp [e]; done) | (simp; omega)

end Go.Proofs.YtideblodkkgodaaGreat
