/- Vectors that are in two spaces, the reference's. -/
import Derived.Test.YtideblodkkgodaaGreatJbr
set_option linter.unusedSectionVars false
set_option linter.unusedVariables false
set_option linter.unusedSimpArgs false

namespace Go.V

set_option linter.unusedSimpArgs false

set_option linter.unusedVariables false

/-- The combination i of the first k vectors of R. -/
def cmb (p : Int) (A R : Nat → Nat → Int) (k : Nat) (i : Nat) : Nat → Int := fun x => sm (fun j => A i j * R j x) k % p

theorem cmb_zero (p : Int) (A R : Nat → Nat → Int) (i : Nat) : cmb p A R 0 i = fun _ => 0 := by funext x; simp [cmb, sm]

theorem cmb_step (p : Int) (A R : Nat → Nat → Int) (k i : Nat) : pl p (cmb p A R k i) (A i k) (R k) = cmb p A R (k + 1) i := by
  funext x; unfold pl cmb; rw [modAddL]; rfl

theorem cmb_res {p : Int} (hp : 2 ≤ p) (A R : Nat → Nat → Int) (k i N : Nat) : isRes p N (cmb p A R k i) := fun _ _ => modB _ hp

theorem RR.nil (p : Int) (A : Nat → Nat → Int) (P : Nat → Nat) : RR p A 0 P :=
  ⟨fun k hk => by omega, fun k hk => by omega, fun k k' h1 h2 => by omega, fun k hk => by omega, fun k j hk => by omega, fun k x hk => by omega⟩

theorem same_nil (p : Int) (A B : Nat → Nat → Int) : Go.V.same p A 0 B 0 := ⟨fun k hk => by omega, fun k hk => by omega⟩

theorem same_put {p : Int} {A A2 W : Nat → Nat → Int} {d d2 i : Nat} (h2 : Go.V.same p A2 d2 (snc A d (W i)) (d + 1)) (h : Go.V.same p A d W i) : Go.V.same p A2 d2 W (i + 1) :=
  same_trans h2 (same_trans (same_snc h (W i)) (same_congr (fun k x hk hx => snc_at W i k x)))

end Go.V

namespace Go.Proofs.YtideblodkkgodaaGreat

open Go.V

variable [BW]

set_option linter.unusedSimpArgs false

set_option linter.unusedVariables false

set_option maxHeartbeats 4000000

/-- spec.l01Meet -/
def ir16 : Cd := (.seq (.reg [⟨some 6,none,.mov (.c .nils)⟩]) (.seq (.reg [⟨some 14,none,.bsl 32 0 8 [(8,(.int .u8 0))] []⟩,⟨some 7,none,.mov (.t 14)⟩]) (.seq (.reg [⟨some 15,none,.build 64 [(64,(.int .u8 0))] []⟩,⟨some 8,none,.new 34 [(64,(.int .u8 0))]⟩,⟨none,none,.st 64 (.t 8) (.t 15)⟩]) (.seq (.seq (.reg [⟨some 9,none,.mov (.c (.int .i64 0))⟩]) (.block 0 (.loop (.seq (.seq (.reg [⟨some 16,none,.mov (.t 9)⟩,⟨some 17,none,.mov (.t 1)⟩,⟨some 18,none,.len (.t 17)⟩,⟨some 19,none,.bin .lss (.t 16) (.t 18)⟩]) (.cond (.t 19) .skip (.exit 0))) (.seq (.block 1 (.reg [⟨some 22,none,.mov (.t 9)⟩,⟨some 23,none,.mov (.t 0)⟩,⟨some 24,none,.mov (.t 1)⟩,⟨some 25,none,.mov (.t 9)⟩,⟨some 26,none,.isl 8 (.t 24) (.t 25)⟩,⟨some 27,none,.ld (some 8) (.t 26)⟩,⟨some 28,none,.mov (.t 2)⟩,⟨some 29,none,.call 40 [(.t 23),(.t 27),(.t 28)]⟩,⟨some 30,none,.ia 8 8 (.t 8) (.t 22)⟩,⟨none,none,.st 8 (.t 30) (.t 29)⟩])) (.reg [⟨some 20,none,.mov (.t 9)⟩,⟨some 21,none,.bin .add (.t 20) (.c (.int .i64 1))⟩,⟨some 9,none,.mov (.t 21)⟩])))))) (.seq (.reg [⟨some 31,none,.mov (.t 0)⟩,⟨some 32,none,.mov (.t 1)⟩,⟨some 33,none,.len (.t 32)⟩,⟨some 34,none,.ld (some 64) (.t 8)⟩,⟨some 35,none,.call 41 [(.t 31),(.t 33),(.t 34)]⟩,⟨some 10,none,.mov (.t 35)⟩]) (.seq (.seq (.reg [⟨some 11,none,.mov (.c (.int .i64 0))⟩]) (.block 2 (.loop (.seq (.seq (.reg [⟨some 36,none,.mov (.t 11)⟩,⟨some 37,none,.mov (.t 10)⟩,⟨some 38,none,.len (.t 37)⟩,⟨some 39,none,.bin .lss (.t 36) (.t 38)⟩]) (.cond (.t 39) .skip (.exit 2))) (.seq (.block 3 (.seq (.reg [⟨some 42,none,.build 8 [(8,(.int .u8 0))] []⟩,⟨some 12,none,.new 32 [(8,(.int .u8 0))]⟩,⟨none,none,.st 8 (.t 12) (.t 42)⟩]) (.seq (.seq (.reg [⟨some 13,none,.mov (.c (.int .i64 0))⟩]) (.block 4 (.loop (.seq (.seq (.reg [⟨some 43,none,.mov (.t 13)⟩,⟨some 44,none,.mov (.t 1)⟩,⟨some 45,none,.len (.t 44)⟩,⟨some 46,none,.bin .lss (.t 43) (.t 45)⟩]) (.cond (.t 46) .skip (.exit 4))) (.seq (.block 5 (.drw true [13,14] [⟨some 49,none,.mov (.t 0)⟩,⟨some 50,none,.ld (some 8) (.t 12)⟩,⟨some 51,none,.mov (.t 1)⟩,⟨some 52,none,.mov (.t 13)⟩,⟨some 53,none,.isl 8 (.t 51) (.t 52)⟩,⟨some 54,none,.ld (some 8) (.t 53)⟩,⟨some 55,none,.mov (.t 10)⟩,⟨some 56,none,.mov (.t 11)⟩,⟨some 57,none,.mov (.t 13)⟩,⟨some 58,none,.isl 8 (.t 55) (.t 56)⟩,⟨some 59,none,.ia 8 1 (.t 58) (.t 57)⟩,⟨some 60,none,.ld none (.t 59)⟩,⟨some 61,none,.cv .i64 (.t 60)⟩,⟨some 62,none,.call 42 [(.t 49),(.t 50),(.t 54),(.t 61)]⟩,⟨none,none,.st 8 (.t 12) (.t 62)⟩])) (.reg [⟨some 47,none,.mov (.t 13)⟩,⟨some 48,none,.bin .add (.t 47) (.c (.int .i64 1))⟩,⟨some 13,none,.mov (.t 48)⟩])))))) (.reg [⟨some 63,none,.mov (.t 0)⟩,⟨some 64,none,.mov (.t 7)⟩,⟨some 65,none,.ld (some 8) (.t 12)⟩,⟨some 66,none,.call 18 [(.t 63),(.t 64),(.t 65)]⟩,⟨some 7,none,.mov (.t 66)⟩])))) (.reg [⟨some 40,none,.mov (.t 11)⟩,⟨some 41,none,.bin .add (.t 40) (.c (.int .i64 1))⟩,⟨some 11,none,.mov (.t 41)⟩])))))) (.seq (.reg [⟨some 67,none,.mov (.t 7)⟩,⟨some 6,none,.mov (.t 67)⟩]) .ret)))))))

set_option maxRecDepth 100000 in
theorem tr16 : trFn Tryz.prog Tryz.f16 = some (68, ir16, [.tmp 6]) := by kernel_rfl

theorem spec_l01Meet (p : Int) (R T : Nat → Nat → Int) (c d b1 b2 : Nat) (P1 P2 : Nat → Nat) (v1 v2 : SV) (H : Hp) (n : Nat) (hp : isP p = true) (hc : c ≤ 8) (hd : d ≤ 8) (hV1 : VL H v1 c R b1) (hV2 : VL H v2 d T b2) (hR : ∀ i, i < c → isRes p 8 (R i)) (hT : RR p T d P2) :
    FnS Tryz.prog 16 [i64 p, .s v1, .s v2] H n (fun r H' n' => ∃ sv O e P b, r = .s sv ∧ VL H' sv e O b ∧ RR p O e P ∧ (∀ v, isRes p 8 v → (spn p O e v ↔ spn p R c v ∧ spn p T d v)) ∧ n ≤ b ∧ b < n' ∧ (∀ x, n' ≤ x → H'.get x = none) ∧ ∀ x, x < n → H'.get x = H.get x) := by
  have hb := isP_le hp
  have hTr : ∀ i, i < d → isRes p 8 (T i) := fun i hi => hT.res i hi
  have hTl : ∀ i, i < d → fsn (T i) 8 < 8 := fun i hi => by rw [hT.fsn hi]; exact hT.lt i hi
  obtain ⟨F, hF⟩ : ∃ F : Nat → Int, F = fun q => rdk p T (R (q / 8)) d (q % 8) := ⟨_, rfl⟩
  obtain ⟨o1, cap1, K1, rfl, g1, ho1, hm1, hc1⟩ := hV1
  refine FnS.of_body Tryz.func16 tr16 (by simp) (fun hf => ?_)
  dsimp only [argEnv]
  unfold ir16
  have hbn1 := getlt hf g1
  have hbn2 := hV2.bound hf
  (refine zG ?_)
  refine CS.iter c (fun i => [(9, i64 (i : Nat)), (0, i64 p), (1, .s (.slc b1 o1 c cap1)), (2, .s v2), (7, .s (.slc n 0 0 0)), (8, ptr (n + 1) 0)])
    (fun i => (n + 1, ⟨64, bys (rowsTo (fun _ => 0) F i), 34⟩) :: (n, ⟨0 * 8, fun i => Zs.c [(8, SV.int .u8 0)] (i % 8), 32⟩) :: H) (fun _ => True) (by (repeat first | exact trivial | refine And.intro rfl ?_))
    (Drops.keepc rfl rfl (fun q hq => by rw [rowsTo_zero]; rfl) (Drops.refl _ _)) trivial ?_
  intro i n1 hi hn1 _
  (refine zG ?_)
  refine zI ?_ ?_<;>intro h1
  · have hi' : i < c := by omega
    have e9 : ∀ q, q < 8 → K1.c (o1 + i * 8 + q) = .int .u8 (R i q) := fun q hq => by rw [Nat.add_assoc]; exact hc1 i q hi' hq
    (refine zG ?_)
    refine RS.call rfl ((spec_l01By p T d b2 v2 (R i) _ _ hb (by omega) (hV2.keep (by simp (disch := omega) only [Hp.get_ne])) hTr hTl (hR i hi')).mono ?_)
    rintro r H' n2 hn2 ⟨rfl, rfl⟩
    (refine zG ?_)
    exact ⟨by omega, by (repeat first | exact trivial | refine And.intro rfl ?_), Drops.keepc rfl rfl (fun q hq => rowsTo_step (fun y hy => by rw [hF]; (try dsimp only); rw [show (8 * i + y) / 8 = i by omega, show (8 * i + y) % 8 = y by omega]) q) (Drops.refl _ _), trivial⟩
  obtain rfl : c = i := by omega
  clear h1 hi
  (refine zG ?_)
  have hFr : isRes p 64 (rowsTo (fun _ => 0) F c) := fun q hq => by
    unfold rowsTo
    split
    · rename_i h2
      rw [hF]
      exact rdk_res hb.1 (hR (q / 8) (by omega)) d (q % 8) (by omega)
    · (try dsimp only); omega
  refine RS.call rfl ((FnS.args (concs_cons rfl (concs_cons rfl (concs_cons (conc_arr (fun q hq => by first | rfl | (simp only [Nat.zero_add]; done) | (simp only [Nat.zero_add]; rfl))) rfl))) (spec_l01Kernel p c (rowsTo (fun _ => 0) F c) _ _ hp hc hFr)).mono ?_)
  rintro r H2 n2 hn2 ⟨vk, A, k, PA, bk, rfl, VA, rrA, ker, hbk, hbkn, hfr2, hlow2⟩
  have hk8 := rrA.d8
  obtain ⟨ok, capk, Kk, rfl, gk, hok, hmk, hck⟩ := VA
  have t1 : H2.get b1 = some K1 := by rw [hlow2 b1 (by omega)]; simp (disch := omega) only [Hp.get_ne]; exact g1
  have tn : H2.get n = some ⟨0 * 8, fun i => Zs.c [(8, SV.int .u8 0)] (i % 8), 32⟩ := by rw [hlow2 n (by omega)]; simp (disch := omega) only [Hp.get_ne, Hp.get_eq]
  have lo2 : ∀ x, x < n → H2.get x = H.get x := fun x hx => by rw [hlow2 x (by omega)]; simp (disch := omega) only [Hp.get_ne]
  clear hlow2
  (refine zG ?_)
  refine CS.weak (e1 := [(11, i64 (((0 : Nat) : Int))), (0, i64 p), (1, .s (.slc b1 o1 c cap1)), (7, .s (.slc n 0 0 0)), (10, .s (.slc bk ok k capk))]) (by (repeat first | exact trivial | refine And.intro rfl ?_)) (Drops.refl _ _) ?_
  refine CS.loop (fun kx e H1 n1 => ∃ i v7 O d7 P b7, i ≤ k ∧ kx = k - i ∧ e = [(11, i64 ((i : Nat))), (0, i64 p), (1, .s (.slc b1 o1 c cap1)), (7, .s v7), (10, .s (.slc bk ok k capk))] ∧ VL H1 v7 d7 O b7 ∧ RR p O d7 P ∧ Go.V.same p O d7 (cmb p A R c) i ∧ n ≤ b7 ∧ b7 < n1 ∧ b7 ≠ bk ∧ H1.get b1 = some K1 ∧ H1.get bk = some Kk ∧ (∀ x, x < n → H1.get x = H2.get x) ∧ ∀ x, n1 ≤ x → H1.get x = none) k ?_ ?_
  · exact ⟨0, _, fun _ _ => 0, 0, fun _ => 0, n, by omega, rfl, rfl, ⟨0, 0, _, rfl, tn, by simp, Nat.le_refl _, fun i x hi => by omega⟩, RR.nil _ _ _, same_nil _ _ _, by omega, by omega, by omega, t1, gk, fun x hx => rfl, hfr2⟩
  rintro kx e H3 n3 hn3 ⟨i, v7, O, d7, P, b7, hi, rfl, rfl, hV7, rr7, sm7, hb7, hb7n, hb7k, u1, uk, hlow3, hfr3⟩
  have hbk3 := getlt hfr3 uk
  (refine zG ?_)
  refine zI ?_ ?_<;>intro h2
  · have hi' : i < k := by omega
    (refine zG ?_)
    refine CS.iter c (fun j => [(13, i64 (j : Nat)), (12, ptr n3 0), (11, i64 (i : Nat)), (0, i64 p), (1, .s (.slc b1 o1 c cap1)), (7, .s v7), (10, .s (.slc bk ok k capk))])
      (fun j => (n3, ⟨8, bys (cmb p A R j i), 32⟩) :: H3) (fun _ => True) (by (repeat first | exact trivial | refine And.intro rfl ?_))
      (Drops.keepc rfl rfl (fun q hq => by rw [cmb_zero]; rcases (show q = 0 ∨ q = 1 ∨ q = 2 ∨ q = 3 ∨ q = 4 ∨ q = 5 ∨ q = 6 ∨ q = 7 by (simp only [Zs.size] at hq; omega)) with rfl | rfl | rfl | rfl | rfl | rfl | rfl | rfl <;> rfl) (Drops.refl _ _)) trivial ?_
    intro j n4 hj hn4 _
    (refine zG ?_)
    refine zI ?_ ?_<;>intro h3
    · have hj' : j < c := by omega
      have e9 : ∀ q, q < 8 → K1.c (o1 + j * 8 + q) = .int .u8 (R j q) := fun q hq => by rw [Nat.add_assoc]; exact hc1 j q hj' hq
      have e10 : Kk.c (ok + (i * 8 + j)) = .int .u8 (A i j) := hck i j hi' (by omega)
      have hij := rrA.res i hi' j (by omega)
      have hRb := isRes.by (hR j hj') hb.2
      (repeat first|refine zG ?_|(refine LS.nilQ ?_;try with_reducible intro nq hnq;try refine zU ?_))
      refine RS.call rfl ((spec_l01Add p (A i j) (cmb p A R j i) (R j) _ _ hb (isRes.by (cmb_res hb.1 _ _ _ _ 8) hb.2) hRb (by omega)).mono ?_)
      rintro r H' n5 hn5 ⟨rfl, rfl⟩
      rw [cmb_step]
      (refine zG ?_)
      exact ⟨by omega, by (repeat first | exact trivial | refine And.intro rfl ?_), Drops.keepc rfl rfl (fun _ _ => rfl) (Drops.refl _ _), trivial⟩
    obtain rfl : c = j := by omega
    (refine zG ?_)
    refine RS.call rfl ((spec_l01Put p O d7 b7 P v7 (cmb p A R c i) _ _ hp (hV7.keep (by simp (disch := omega) only [Hp.get_ne])) rr7 (cmb_res hb.1 _ _ _ _ 8)).mono ?_)
    rintro r H4 n5 hn5 ⟨v8, O8, d8, P8, b8, rfl, hV8, rr8, sm8, hb8, hb8n, hfr8, hlow8⟩
    (refine zG ?_)
    have lo : ∀ x, x < n3 → H4.get x = H3.get x := fun x hx => by rw [hlow8 x (by omega)]; simp (disch := omega) only [Hp.get_ne]
    exact ⟨k - (i + 1), [(11, i64 (((i + 1 : Nat) : Int))), (0, i64 p), (1, .s (.slc b1 o1 c cap1)), (7, .s v8), (10, .s (.slc bk ok k capk))], H4, by omega, by (repeat first | exact trivial | refine And.intro rfl ?_), Drops.refl _ _, i + 1, v8, O8, d8, P8, b8, by omega, rfl, rfl, hV8, rr8, same_put sm8 sm7, by rcases hb8 with e | e <;> omega, hb8n, by rcases hb8 with e | e <;> omega, by rw [lo b1 (by omega)]; exact u1, by rw [lo bk (by omega)]; exact uk, fun x hx => by rw [lo x (by omega)]; exact hlow3 x hx, hfr8⟩
  obtain rfl : k = i := by omega
  (refine zG ?_)
  refine ⟨.s v7, H3, rfl, Drops.refl _ _, v7, O, d7, P, b7, rfl, hV7, rr7, fun v hv => ?_, hb7, hb7n, hfr3, fun x hx => by rw [hlow3 x hx, lo2 x hx]⟩
  exact meet_iff hb.1 hc hR hT.img (fun i x hi hx => by unfold rowsTo; rw [if_pos (by omega), hF]; (try dsimp only); rw [show (8 * i + x) / 8 = i by omega, show (8 * i + x) % 8 = x by omega]) ker (fun i hi => rrA.res i hi) (fun i x hi hx => by unfold cmb; rw [emod_idem]) (fun i hi => cmb_res hb.1 _ _ _ _ 8) sm7 hv

end Go.Proofs.YtideblodkkgodaaGreat

/- Codes, legs of vectors, least subcoalgebras, the reference's. -/

namespace Go.V

set_option linter.unusedSimpArgs false

set_option linter.unusedVariables false

/-- A Hopf algebra and vectors of it. -/
def hok (h : HT) (L : Nat → Nat → Int) (k : Nat) : Prop := isHopf h ∧ ∀ i, i < k → isVec h.p h.n (L i)

/-- The rows and the columns of a table, in turn. -/
def lgs (M : Nat → Int) : Nat → Nat → Int := fun q x => if q % 2 = 0 then M (8 * (q / 2) + x) else M (8 * x + q / 2)

/-- A column up to k. -/
def colc (M : Nat → Int) (j k : Nat) : Nat → Int := fun x => if x < k then M (8 * x + j) else 0

theorem colc_zero (M : Nat → Int) (j : Nat) : colc M j 0 = fun _ => 0 := by funext x; unfold colc; rw [if_neg (by omega)]

theorem colc_step (M : Nat → Int) (j k q : Nat) : put1 (bys (colc M j k)) k (.int .u8 (M (8 * k + j))) q = bys (colc M j (k + 1)) q := by
  unfold put1 bys colc
  by_cases h : q = k
  · rw [if_pos h, if_pos (by omega), h]
  · rw [if_neg h]
    by_cases h2 : q < k
    · rw [if_pos h2, if_pos (by omega)]
    · rw [if_neg h2, if_neg (by omega)]

theorem colc_end {M : Nat → Int} {j a : Nat} (h : ∀ x, a ≤ x → x < 8 → M (8 * x + j) = 0) {q : Nat} (hq : q < 8) : colc M j a q = M (8 * q + j) := by
  unfold colc
  by_cases h2 : q < a
  · rw [if_pos h2]
  · rw [if_neg h2, h q (by omega) hq]

theorem cps_z {p : Int} {c v : Nat → Int} {a : Nat} (hc : tz a c) {x y : Nat} (hx : x < 8) (hy : y < 8) (h : a ≤ x ∨ a ≤ y) : cps p c v 8 (8 * x + y) = 0 := by
  unfold cps
  rw [sm_zero (fun i hi => by rw [← Nat.add_assoc, hc i x y hi hx hy (.inr h), Int.mul_zero])]; rfl

theorem lgs_even (M : Nat → Int) (j : Nat) : lgs M (2 * j) = fun x => M (8 * j + x) := by
  funext x; unfold lgs; rw [if_pos (by omega), show 2 * j / 2 = j by omega]

theorem lgs_odd (M : Nat → Int) (j : Nat) : lgs M (2 * j + 1) = fun x => M (8 * x + j) := by
  funext x; unfold lgs; rw [if_neg (by omega), show (2 * j + 1) / 2 = j by omega]

theorem cps_cong {p : Int} {c v w : Nat → Int} (h : ∀ x, x < 8 → v x = w x) : cps p c v 8 = cps p c w 8 := by
  funext q; unfold cps; rw [sm_congr (fun i hi => by rw [h i hi])]

theorem RR.into {p : Int} (hp : 2 ≤ p) {A O : Nat → Nat → Int} {d e : Nat} {P Q : Nat → Nat} (h : RR p A d P) (h' : RR p O e Q) (hs : sub p A d O e) (k : Nat) (hk : k < d) : ∃ j, j < e ∧ Q j = P k :=
  h'.first (hs k hk) (h.lt k hk) (by rw [h.one k hk, modSelf ⟨by omega, by omega⟩]; omega) (fun x hx => h.lead k x hk hx)

theorem RR.count {p : Int} (hp : 2 ≤ p) {A O : Nat → Nat → Int} {d e : Nat} {P Q : Nat → Nat} (h : RR p A d P) (h' : RR p O e Q) (hs : sub p A d O e) : ∀ k, k < d → ∀ j, j < e → Q j = P k → k ≤ j
  | 0, _, j, _, _ => by omega
  | k + 1, hk, j, hj, he => by
    obtain ⟨i, hi, hi2⟩ := RR.into hp h h' hs k (by omega)
    have := RR.count hp h h' hs k (by omega) i hi hi2
    have hm := h.mono k (k + 1) (by omega) hk
    rcases Nat.lt_or_ge i j with q | q
    · omega
    · rcases Nat.lt_or_ge j i with q2 | q2
      · have := h'.mono j i q2 hi; omega
      · obtain rfl : i = j := by omega
        omega

theorem RR.le {p : Int} (hp : 2 ≤ p) {A O : Nat → Nat → Int} {d e : Nat} {P Q : Nat → Nat} (h : RR p A d P) (h' : RR p O e Q) (hs : sub p A d O e) : d ≤ e := by
  rcases Nat.eq_zero_or_pos d with q | q
  · omega
  · obtain ⟨j, hj, h2⟩ := RR.into hp h h' hs (d - 1) (by omega)
    have := RR.count hp h h' hs (d - 1) (by omega) j hj h2
    omega

/-- A space in a space of the same size is that space. -/
theorem RR.full {p : Int} (hp : 2 ≤ p) {A O : Nat → Nat → Int} {d : Nat} {P Q : Nat → Nat} (h : RR p A d P) (h' : RR p O d Q) (hs : sub p A d O d) : Go.V.same p A d O d := by
  have key : ∀ i k, k < d → d - 1 - k = i → ∀ j, j < d → Q j = P k → j ≤ k := by
    intro i
    induction i with
    | zero => intro k hk hi j hj _; omega
    | succ i ih =>
      intro k hk hi j hj he
      obtain ⟨j', hj', he'⟩ := RR.into hp h h' hs (k + 1) (by omega)
      have := ih (k + 1) (by omega) (by omega) j' hj' he'
      have hm := h.mono k (k + 1) (by omega) (by omega)
      rcases Nat.lt_or_ge j j' with q | q
      · omega
      · rcases Nat.lt_or_ge j' j with q2 | q2
        · have := h'.mono j' j q2 hj; omega
        · obtain rfl : j = j' := by omega
          omega
  have hPQ : ∀ k, k < d → Q k = P k := fun k hk => by
    obtain ⟨j, hj, he⟩ := RR.into hp h h' hs k hk
    have h1 := RR.count hp h h' hs k hk j hj he
    have h2 := key _ k hk rfl j hj he
    obtain rfl : j = k := by omega
    exact he
  refine ⟨hs, fun j hj => ?_⟩
  have hg : spn p A d (fun x => sm (fun k => O j (P k) * A k x) d) := ⟨fun k => O j (P k), fun x hx => rfl⟩
  have hw : spn p O d (fun x => (1 * O j x + (-1) * sm (fun k => O j (P k) * A k x) d) % p) := spn_add (spn_one hj) (sub_spn hs hg) (fun x hx => by (try dsimp only); rw [emod_idem])
  refine spn_add (a := 1) (b := 0) hg hg (fun x hx => ?_)
  have h0 := h'.none hw (fun k hk => by
    (try dsimp only)
    rw [hPQ k hk, sm_one hk (fun i hi hne => by rw [h.zer k i hk hi hne, Int.mul_zero]), h.one k hk, show 1 * O j (P k) + -1 * (O j (P k) * 1) = 0 by omega]
    exact Int.zero_emod p) hx
  (try dsimp only at h0)
  rw [emod_idem] at h0
  rw [show O j x = (1 * O j x + -1 * sm (fun k => O j (P k) * A k x) d) + sm (fun k => O j (P k) * A k x) d by omega, Gmodadd (a' := 0) (by rw [h0]; rfl) rfl]
  congr 1; omega

/-- The legs of the vectors of a list are in its space. -/
def legIn (h : HT) (a : Nat) (A : Nat → Nat → Int) (d : Nat) : Prop := ∀ i q, i < d → q < 2 * a → spn h.p A d (lgs (cps h.p h.c (A i) 8) q)

theorem legIn.same {h : HT} {a d d' : Nat} {A B : Nat → Nat → Int} {P P' : Nat → Nat} (hp : 2 ≤ h.p) (rA : RR h.p A d P) (rB : RR h.p B d' P') (hs : Go.V.same h.p A d B d') (hB : legIn h a B d') : ∀ i q, i < d → q < 2 * a → spn h.p B d' (lgs (cps h.p h.c (A i) 8) q) := fun i q hi hq => by
  obtain ⟨e1, e2⟩ := rA.same hp rB hs
  rw [cps_cong (fun x hx => (e2 i hi).2 x hx)]
  exact hB i q (by omega) hq

end Go.V

namespace Go.Proofs.YtideblodkkgodaaGreat

open Go.V

variable [BW]

set_option linter.unusedSimpArgs false

set_option linter.unusedVariables false

set_option maxHeartbeats 4000000

/-- spec.l03Code -/
def ir13 : Cd := (.seq (.reg [⟨some 2,none,.box 38 (.t 0)⟩,⟨some 4,none,.mov (.c (.int .i64 0))⟩]) (.seq (.seq (.reg [⟨some 6,none,.ld (some 1106) (.t 2)⟩,⟨some 7,none,.call 35 [(.t 6)]⟩,⟨some 8,none,.un .not (.t 7)⟩]) (.cond (.t 8) (.seq (.reg [⟨some 4,none,.mov (.c (.int .i64 1))⟩]) .ret) .skip)) (.seq (.seq (.reg [⟨some 5,none,.mov (.c (.int .i64 0))⟩]) (.block 0 (.loop (.seq (.seq (.reg [⟨some 9,none,.mov (.t 5)⟩,⟨some 10,none,.mov (.t 1)⟩,⟨some 11,none,.len (.t 10)⟩,⟨some 12,none,.bin .lss (.t 9) (.t 11)⟩]) (.cond (.t 12) .skip (.exit 0))) (.seq (.block 1 (.seq (.drw true [8] [⟨some 15,none,.fa 0 (.t 2)⟩,⟨some 16,none,.ld none (.t 15)⟩,⟨some 17,none,.fa 1 (.t 2)⟩,⟨some 18,none,.ld none (.t 17)⟩,⟨some 19,none,.mov (.t 1)⟩,⟨some 20,none,.mov (.t 5)⟩,⟨some 21,none,.isl 8 (.t 19) (.t 20)⟩,⟨some 22,none,.ld (some 8) (.t 21)⟩,⟨some 23,none,.call 36 [(.t 16),(.t 18),(.t 22)]⟩,⟨some 24,none,.un .not (.t 23)⟩]) (.cond (.t 24) (.seq (.reg [⟨some 4,none,.mov (.c (.int .i64 1))⟩]) .ret) .skip))) (.reg [⟨some 13,none,.mov (.t 5)⟩,⟨some 14,none,.bin .add (.t 13) (.c (.int .i64 1))⟩,⟨some 5,none,.mov (.t 14)⟩])))))) (.seq (.reg [⟨some 4,none,.mov (.c (.int .i64 0))⟩]) .ret))))

set_option maxRecDepth 100000 in
theorem tr13 : trFn Tryz.prog Tryz.f13 = some (25, ir13, [.tmp 4]) := by kernel_rfl

theorem spec_l03Code (h : HT) (L : Nat → Nat → Int) (k lb : Nat) (lv : SV) (Kh : Nat → SV) (H : Hp) (n : Nat) (hK : h.At Kh) (hB : h.By) (hk : k ≤ 1000000) (hL : VL H lv k L lb) (hLb : ∀ i, i < k → isBy 8 (L i)) :
    FnS Tryz.prog 13 [.arr 1106 Kh, .s lv] H n (fun r H' _ => r = i64 (cd (hok h L k)) ∧ H' = H) := by
  have hk0 := hK.p
  have hk1 := hK.n
  have hk1' : Kh (0 + 1) = .int .i64 h.n := hk1
  obtain ⟨o, cap, K, rfl, gb, ho, hmc, hc⟩ := hL
  refine FnS.of_body Tryz.func13 tr13 (by simp) (fun hf => ?_)
  dsimp only [argEnv]
  unfold ir13
  have hlb := getlt hf gb
  (refine zG ?_)
  refine RS.call rfl ((FnS.args (concs_cons (conc_arr (fun q hq => rfl)) rfl) (spec_l03Is h Kh _ _ hK hB)).mono ?_)
  rintro r H' n2 hn2 ⟨rfl, rfl⟩
  (refine zG ?_)
  refine zI ?_ ?_<;>intro h1
  · (refine zG ?_)
    exact ⟨_, H, rfl, by exact zD, by rw [cd_false (fun q => h1 q.1)], rfl⟩
  (refine zG ?_)
  refine CS.iter k (fun i => [(5, i64 (i : Nat)), (1, .s (.slc lb o k cap)), (2, ptr n 0)]) (fun _ => (n, ⟨1106, Kh, 38⟩) :: H) (fun i => ∀ j, j < i → isVec h.p h.n (L j)) (by (repeat first | exact trivial | refine And.intro rfl ?_)) (by first | exact Drops.refl _ _ | exact zD) (fun j hj => by omega) ?_
  intro i n3 hi hn3 hJ
  (refine zG ?_)
  refine zI ?_ ?_<;>intro h2
  · have hi' : i < k := by omega
    have e9 : ∀ q, q < 8 → K.c (o + i * 8 + q) = .int .u8 (L i q) := fun q hq => by rw [Nat.add_assoc]; exact hc i q hi' hq
    have hLi := hLb i hi'
    (repeat first|refine zG ?_|(refine LS.nilQ ?_;try with_reducible intro nq hnq;try refine zU ?_))
    refine RS.call rfl ((spec_l01Vector h.p h.n (L i) _ _ hLi).mono ?_)
    rintro r H' n5 hn5 ⟨rfl, rfl⟩
    (refine zG ?_)
    refine zI ?_ ?_<;>intro h3
    · (refine zG ?_)
      exact ⟨_, H, rfl, by exact zD, by rw [cd_false (fun q => h3 (q.2 i hi'))], rfl⟩
    · (refine zG ?_)
      refine ⟨by omega, by (repeat first | exact trivial | refine And.intro rfl ?_), Drops.refl _ _, fun j hj => ?_⟩
      by_cases e : j = i
      · rw [e]; exact h3
      · exact hJ j (by omega)
  · obtain rfl : k = i := by omega
    (refine zG ?_)
    exact ⟨_, H, rfl, by exact zD, by rw [cd_true (show hok h L k from ⟨h1, hJ⟩)], rfl⟩

/-- One more vector in a reduced list, as a step of a list of operations. -/
theorem ST_put {p : Int} {O : Nat → Nat → Int} {d7 b7 N mm n : Nat} {P7 : Nat → Nat} {v7 : SV} {w : Nat → Int} {c : Nat → SV} {d : Option Nat} {args : List X} {e : Env} {H F : Hp} {K : Env → Hp → Prop} (hp : isP p = true) (hV : VL H v7 d7 O b7) (hR : RR p O d7 P7) (hw : isRes p 8 w) (hE : Ext F H)
    (hv : evs e args = some [i64 p, .s v7, .arr 8 c]) (hc : ∀ q, q < 8 → c q = bys w q)
    (h : ∀ v8 O8 d8 P8 b8 H', VL H' v8 d8 O8 b8 → RR p O8 d8 P8 → same p O8 d8 (snc O d7 w) (d7 + 1) → (b8 = b7 ∨ n ≤ b8) → (∀ x, x < n → H'.get x = H.get x) → Ext F H' → K (putD d (.s v8) e) H') : ST Tryz.prog N mm ⟨d, none, .call 18 args⟩ e H F n K := by
  refine ST.call (R := fun r H' => ∃ v8 O8 d8 P8 b8, r = .s v8 ∧ VL H' v8 d8 O8 b8 ∧ RR p O8 d8 P8 ∧ same p O8 d8 (snc O d7 w) (d7 + 1) ∧ (b8 = b7 ∨ n ≤ b8) ∧ ∀ x, x < n → H'.get x = H.get x) hv (fun n' h1 h2 => ?_) ?_
  · refine (FnS.args (concs_cons rfl (concs_cons rfl (concs_cons (conc_arr hc) rfl))) (spec_l01Put p O d7 b7 P7 v7 w H n' hp hV hR hw)).mono ?_
    rintro r H' n'' hn'' ⟨v8, O8, d8, P8, b8, q1, q2, q3, q4, q5, q6, q7, q8⟩
    refine ⟨⟨v8, O8, d8, P8, b8, q1, q2, q3, q4, by rcases q5 with q5 | q5 <;> omega, fun x hx => q8 x (by omega)⟩, fun b k hb => ?_⟩
    have := hE b k hb
    rw [q8 b (getlt h2 this)]; exact this
  · rintro r H' ⟨v8, O8, d8, P8, b8, rfl, q2, q3, q4, q5, q6⟩ hE'
    exact h v8 O8 d8 P8 b8 H' q2 q3 q4 q5 q6 hE'

/-- spec.l07Legs -/
def ir115 : Cd := (.seq (.reg [⟨some 2,none,.box 38 (.t 0)⟩,⟨some 3,none,.box 32 (.t 1)⟩,⟨some 4,none,.mov (.c .nils)⟩]) (.seq (.reg [⟨some 10,none,.ld (some 1106) (.t 2)⟩,⟨some 11,none,.ld (some 8) (.t 3)⟩,⟨some 12,none,.call 59 [(.t 10),(.t 11)]⟩,⟨some 13,none,.bsl 32 0 8 [(8,(.int .u8 0))] []⟩,⟨some 5,none,.new 34 [(64,(.int .u8 0))]⟩,⟨none,none,.st 64 (.t 5) (.t 12)⟩,⟨some 6,none,.mov (.t 13)⟩]) (.seq (.seq (.reg [⟨some 7,none,.mov (.c (.int .i64 0))⟩]) (.block 0 (.loop (.seq (.seq (.reg [⟨some 14,none,.mov (.t 7)⟩,⟨some 15,none,.fa 1 (.t 2)⟩,⟨some 16,none,.ld none (.t 15)⟩,⟨some 17,none,.bin .lss (.t 14) (.t 16)⟩]) (.cond (.t 17) .skip (.exit 0))) (.seq (.block 1 (.seq (.reg [⟨some 20,none,.build 8 [(8,(.int .u8 0))] []⟩,⟨some 8,none,.new 32 [(8,(.int .u8 0))]⟩,⟨none,none,.st 8 (.t 8) (.t 20)⟩]) (.seq (.seq (.reg [⟨some 9,none,.mov (.c (.int .i64 0))⟩]) (.block 2 (.loop (.seq (.seq (.reg [⟨some 21,none,.mov (.t 9)⟩,⟨some 22,none,.fa 1 (.t 2)⟩,⟨some 23,none,.ld none (.t 22)⟩,⟨some 24,none,.bin .lss (.t 21) (.t 23)⟩]) (.cond (.t 24) .skip (.exit 2))) (.seq (.block 3 (.reg [⟨some 27,none,.mov (.t 9)⟩,⟨some 28,none,.mov (.t 9)⟩,⟨some 29,none,.mov (.t 7)⟩,⟨some 30,none,.ia 8 8 (.t 5) (.t 28)⟩,⟨some 31,none,.ia 8 1 (.t 30) (.t 29)⟩,⟨some 32,none,.ld none (.t 31)⟩,⟨some 33,none,.ia 8 1 (.t 8) (.t 27)⟩,⟨none,none,.st 1 (.t 33) (.t 32)⟩])) (.reg [⟨some 25,none,.mov (.t 9)⟩,⟨some 26,none,.bin .add (.t 25) (.c (.int .i64 1))⟩,⟨some 9,none,.mov (.t 26)⟩])))))) (.drwo true [10] [0,1,2,3,4,5,6,7,9,8,10,11] [⟨some 34,none,.fa 0 (.t 2)⟩,⟨some 35,none,.ld none (.t 34)⟩,⟨some 36,none,.fa 0 (.t 2)⟩,⟨some 37,none,.ld none (.t 36)⟩,⟨some 38,none,.mov (.t 6)⟩,⟨some 39,none,.mov (.t 7)⟩,⟨some 40,none,.ia 8 8 (.t 5) (.t 39)⟩,⟨some 41,none,.ld (some 8) (.t 40)⟩,⟨some 42,none,.call 18 [(.t 37),(.t 38),(.t 41)]⟩,⟨some 43,none,.ld (some 8) (.t 8)⟩,⟨some 44,none,.call 18 [(.t 35),(.t 42),(.t 43)]⟩,⟨some 6,none,.mov (.t 44)⟩])))) (.reg [⟨some 18,none,.mov (.t 7)⟩,⟨some 19,none,.bin .add (.t 18) (.c (.int .i64 1))⟩,⟨some 7,none,.mov (.t 19)⟩])))))) (.seq (.reg [⟨some 45,none,.mov (.t 6)⟩,⟨some 4,none,.mov (.t 45)⟩]) .ret))))

set_option maxRecDepth 100000 in
theorem tr115 : trFn Tryz.prog Tryz.f115 = some (46, ir115, [.tmp 4]) := by kernel_rfl

theorem spec_l07Legs (h : HT) (a : Nat) (v : Nat → Int) (K : Nat → SV) (H : Hp) (n : Nat) (hS : HS h a) (hp : isP h.p = true) (hK : h.At K) (hB : h.By) (hv : isBy 8 v) :
    FnS Tryz.prog 115 [.arr 1106 K, .arr 8 (bys v)] H n (fun r H' n' => ∃ sv A d P b, r = .s sv ∧ VL H' sv d A b ∧ RR h.p A d P ∧ same h.p A d (lgs (cps h.p h.c v 8)) (2 * a) ∧ n ≤ b ∧ b < n' ∧ (∀ x, n' ≤ x → H'.get x = none) ∧ ∀ x, x < n → H'.get x = H.get x) := by
  have hb := hS.hp
  have ha := hS.ha
  have k0 := hK.p
  have k1 := hK.n
  rw [hS.hn] at k1
  have k1' : K (0 + 1) = .int .i64 (a : Nat) := k1
  obtain ⟨M, hM⟩ : ∃ M, M = cps h.p h.c v 8 := ⟨_, rfl⟩
  have hMr : isRes h.p 64 M := by rw [hM]; exact cps_res hb.1 _ _ _ _
  have hMz : ∀ x y, x < 8 → y < 8 → (a ≤ x ∨ a ≤ y) → M (8 * x + y) = 0 := fun x y hx hy q => by rw [hM]; exact cps_z hS.cm hx hy q
  refine FnS.of_body Tryz.func115 tr115 (by simp) (fun hf => ?_)
  dsimp only [argEnv]
  unfold ir115
  (refine zG ?_)
  refine RS.call rfl ((FnS.args (concs_cons (conc_arr (fun q hq => rfl)) (concs_cons (conc_arr (fun q hq => by first | rfl | (simp only [Nat.zero_add]; done) | (simp only [Nat.zero_add]; rfl))) rfl)) (spec_l03Coproduct h a v K _ _ hS hK hB hv)).mono ?_)
  rintro r H' n1 hn1 ⟨rfl, rfl⟩
  rw [← hM]
  (refine zG ?_)
  obtain ⟨H2, hH2⟩ : ∃ H2 : Hp, H2 = (n1 + 1, ⟨64, bys M, 34⟩) :: (n1, ⟨0 * 8, fun i => Zs.c [(8, SV.int .u8 0)] (i % 8), 32⟩) :: (n + 1, ⟨8, bys v, 32⟩) :: (n, ⟨1106, K, 38⟩) :: H := ⟨_, rfl⟩
  refine CS.weak (e1 := [(7, i64 (((0 : Nat) : Int))), (2, ptr n 0), (5, ptr (n1 + 1) 0), (6, .s (.slc n1 0 0 0))]) (H1 := H2) (by (repeat first | exact trivial | refine And.intro rfl ?_)) (by rw [hH2]; exact Drops.keepc rfl rfl (fun q hq => by first | (unfold splice; rw [if_pos (by simpa using hq), Nat.sub_zero]; rfl) | rfl | (unfold splice; rw [if_pos (by (try dsimp only at hq); omega), Nat.sub_zero])) (Drops.refl _ _)) ?_
  have t0 : H2.get n = some ⟨1106, K, 38⟩ := by rw [hH2]; exact zH
  have tM : H2.get (n1 + 1) = some ⟨64, bys M, 34⟩ := by rw [hH2]; exact Hp.get_eq _ _ _
  have tO : H2.get n1 = some ⟨0 * 8, fun i => Zs.c [(8, SV.int .u8 0)] (i % 8), 32⟩ := by rw [hH2]; exact zH
  have lo2 : ∀ x, x < n → H2.get x = H.get x := fun x hx => by rw [hH2]; simp (disch := omega) only [Hp.get_ne]
  have fr2 : ∀ x, n1 + 2 ≤ x → H2.get x = none := fun x hx => by rw [hH2]; simp (disch := omega) only [Hp.get_ne]; exact hf x (by omega)
  clear hH2
  refine CS.loop (fun kx e H1 n2 => ∃ j v6 O d6 P b6, j ≤ a ∧ kx = a - j ∧ e = [(7, i64 ((j : Nat))), (2, ptr n 0), (5, ptr (n1 + 1) 0), (6, .s v6)] ∧ VL H1 v6 d6 O b6 ∧ RR h.p O d6 P ∧ same h.p O d6 (lgs M) (2 * j) ∧ n ≤ b6 ∧ b6 < n2 ∧ b6 ≠ n1 + 1 ∧ b6 ≠ n ∧ H1.get n = some ⟨1106, K, 38⟩ ∧ H1.get (n1 + 1) = some ⟨64, bys M, 34⟩ ∧ (∀ x, x < n → H1.get x = H2.get x) ∧ ∀ x, n2 ≤ x → H1.get x = none) a ?_ ?_
  · exact ⟨0, _, fun _ _ => 0, 0, fun _ => 0, n1, by omega, rfl, rfl, ⟨0, 0, _, rfl, tO, by simp, Nat.le_refl _, fun i x hi => by omega⟩, RR.nil _ _ _, same_nil _ _ _, by omega, by omega, by omega, by omega, t0, tM, fun x hx => rfl, fun x hx => fr2 x (by omega)⟩
  rintro kx e H3 n3 hn3 ⟨j, v6, O, d6, P, b6, hj, rfl, rfl, hV6, rr6, sm6, hb6, hb6n, hb6M, hb6h, u0, uM, hlow3, hfr3⟩
  have hn31 := getlt hfr3 uM
  (refine zG ?_)
  refine zI ?_ ?_<;>intro h2
  · have hj' : j < a := by omega
    (refine zG ?_)
    refine CS.iter a (fun i => [(9, i64 (i : Nat)), (8, ptr n3 0), (7, i64 (j : Nat)), (2, ptr n 0), (5, ptr (n1 + 1) 0), (6, .s v6)])
      (fun i => (n3, ⟨8, bys (colc M j i), 32⟩) :: H3) (fun _ => True) (by (repeat first | exact trivial | refine And.intro rfl ?_))
      (Drops.keepc rfl rfl (fun q hq => by rw [colc_zero]; rcases (show q = 0 ∨ q = 1 ∨ q = 2 ∨ q = 3 ∨ q = 4 ∨ q = 5 ∨ q = 6 ∨ q = 7 by (simp only [Zs.size] at hq; omega)) with rfl | rfl | rfl | rfl | rfl | rfl | rfl | rfl <;> rfl) (Drops.refl _ _)) trivial ?_
    intro i n4 hi hn4 _
    (refine zG ?_)
    refine zI ?_ ?_<;>intro h3
    · have hi' : i < a := by omega
      (refine zG ?_)
      exact ⟨by omega, by (repeat first | exact trivial | refine And.intro rfl ?_), Drops.keepc rfl rfl (fun q hq => colc_step M j i q) (Drops.refl _ _), trivial⟩
    obtain rfl : a = i := by omega
    (refine zG ?_)
    obtain ⟨HX, hHX⟩ : ∃ HX : Hp, HX = (n3, ⟨8, bys (colc M j a), 32⟩) :: H3 := ⟨_, rfl⟩
    rw [← hHX]
    have gv : HX.get n3 = some ⟨8, bys (colc M j a), 32⟩ := by rw [hHX]; exact Hp.get_eq _ _ _
    have lX : ∀ x, x < n3 → HX.get x = H3.get x := fun x hx => by rw [hHX, Hp.get_ne _ _ (by omega)]
    have g0 : HX.get n = some ⟨1106, K, 38⟩ := by rw [lX n (by omega)]; exact u0
    have gM : HX.get (n1 + 1) = some ⟨64, bys M, 34⟩ := by rw [lX (n1 + 1) (by omega)]; exact uM
    refine CS.ordK HX (Ext.refl _) ?_
    dsimp only [pick, List.filterMap_cons, List.getElem?_cons_zero, List.getElem?_cons_succ, List.filterMap_nil]
    refine FL.step (ST.fa (by exact rfl) ?_)
    refine FL.step (ST.ld1 (by exact rfl) g0 (by (try dsimp only); omega) k0 ?_)
    refine FL.step (ST.fa (by exact rfl) ?_)
    refine FL.step (ST.ld1 (by exact rfl) g0 (by (try dsimp only); omega) k0 ?_)
    refine FL.step (ST.mov (by exact rfl) ?_)
    refine FL.step (ST.mov (by exact rfl) ?_)
    refine FL.step (ST.ia (j := j) (by exact rfl) (by exact rfl) (by omega) ?_)
    refine FL.step (ST.ldn (c := bys (lgs M (2 * j))) (by exact rfl) gM (by (try dsimp only); omega) (by funext x; rw [lgs_even, Nat.zero_add]; rfl) ?_)
    refine FL.step (ST.ldn (c := bys (colc M j a)) (by exact rfl) gv (by (try dsimp only); omega) (by funext x; rw [Nat.zero_add]) ?_)
    refine FL.step (ST_put hp (hV6.keep (lX b6 hb6n)) rr6 (w := lgs M (2 * j)) (fun x hx => by rw [lgs_even]; exact hMr _ (by omega)) (Ext.refl _) rfl (fun q hq => rfl) ?_)
    intro v8 O8 d8 P8 b8 H8 hV8 rr8 sm8 hb8 lo8 hE8
    refine FL.step (ST_put hp hV8 rr8 (w := lgs M (2 * j + 1)) (fun x hx => by rw [lgs_odd]; exact hMr _ (by omega)) hE8 rfl (fun q hq => by rw [lgs_odd]; exact congrArg (SV.int .u8) (colc_end (fun x h1 h2 => hMz x j h2 (by omega) (.inl h1)) hq)) ?_)
    intro v9 O9 d9 P9 b9 H9 hV9 rr9 sm9 hb9 lo9 hE9
    refine FL.step (ST.mov (by exact rfl) ?_)
    refine FL.nil ?_
    intro n9 hn9 hlt9
    dsimp only [Ex.then, Ex.inBlock, putD, Env.put]
    (refine zG ?_)
    have hfr9 : ∀ x, n9 ≤ x → H9.get x = none := fun x hx => by
      cases e : H9.get x with
      | none => rfl
      | some k => exact absurd (hlt9 x k e) (by omega)
    have lo : ∀ x, x < n3 → H9.get x = H3.get x := fun x hx => by rw [lo9 x (by omega), lo8 x (by omega), lX x hx]
    have hq9 : b9 = b6 ∨ n3 ≤ b9 := by rcases hb9 with e | e <;> rcases hb8 with e2 | e2 <;> omega
    have e2 : Go.V.same h.p O9 d9 (lgs M) (2 * (j + 1)) := same_put sm9 (same_put sm8 sm6)
    exact ⟨a - (j + 1), [(7, i64 (((j + 1 : Nat) : Int))), (2, ptr n 0), (5, ptr (n1 + 1) 0), (6, .s v9)], H9, by omega, by (repeat first | exact trivial | refine And.intro rfl ?_), Drops.refl _ _, j + 1, v9, O9, d9, P9, b9, by omega, rfl, rfl, hV9, rr9, e2, by omega, hV9.bound hfr9, by omega, by omega, by rw [lo n (by omega)]; exact u0, by rw [lo (n1 + 1) (by omega)]; exact uM, fun x hx => by rw [lo x (by omega)]; exact hlow3 x hx, hfr9⟩
  obtain rfl : a = j := by omega
  (refine zG ?_)
  exact ⟨.s v6, H3, rfl, Drops.refl _ _, v6, O, d6, P, b6, rfl, hV6, rr6, sm6, hb6, hb6n, hfr3, fun x hx => by rw [hlow3 x hx, lo2 x hx]⟩

end Go.Proofs.YtideblodkkgodaaGreat

/- Least subcoalgebras, the reference's. -/

namespace Go.V

set_option linter.unusedSimpArgs false

set_option linter.unusedVariables false

theorem put_sub {p : Int} {O O2 : Nat → Nat → Int} {e e2 : Nat} {w : Nat → Int} (h : Go.V.same p O2 e2 (snc O e w) (e + 1)) : sub p O e O2 e2 ∧ spn p O2 e2 w ∧ ∀ (R : Nat → Nat → Int) (c : Nat), sub p O e R c → spn p R c w → sub p O2 e2 R c := by
  have h0 : snc O e w e = w := by unfold snc; rw [if_pos rfl]
  refine ⟨fun k hk => ?_, ?_, fun R c h1 h2 => sub_trans h.1 fun k hk => ?_⟩
  · have := h.2 k (by omega)
    unfold snc at this
    rwa [if_neg (by omega)] at this
  · have := h.2 e (by omega)
    rwa [h0] at this
  · by_cases q : k = e
    · rw [q, h0]; exact h2
    · unfold snc; rw [if_neg q]; exact h1 k (by omega)

end Go.V

namespace Go.Proofs.YtideblodkkgodaaGreat

open Go.V

variable [BW]

set_option linter.unusedSimpArgs false

set_option linter.unusedVariables false

set_option maxHeartbeats 4000000

/-- spec.l07Closed -/
def ir80 : Cd := (.seq (.reg [⟨some 2,none,.box 38 (.t 0)⟩,⟨some 4,none,.mov (.c .nils)⟩]) (.seq (.reg [⟨some 10,none,.fa 0 (.t 2)⟩,⟨some 11,none,.ld none (.t 10)⟩,⟨some 12,none,.mov (.t 1)⟩,⟨some 13,none,.call 14 [(.t 11),(.t 12)]⟩,⟨some 5,none,.mov (.t 13)⟩]) (.block 0 (.loop (.block 1 (.seq (.reg [⟨some 14,none,.mov (.t 5)⟩,⟨some 6,none,.mov (.t 14)⟩]) (.seq (.seq (.reg [⟨some 7,none,.mov (.c (.int .i64 0))⟩]) (.block 2 (.loop (.seq (.seq (.reg [⟨some 15,none,.mov (.t 7)⟩,⟨some 16,none,.mov (.t 5)⟩,⟨some 17,none,.len (.t 16)⟩,⟨some 18,none,.bin .lss (.t 15) (.t 17)⟩]) (.cond (.t 18) .skip (.exit 2))) (.seq (.block 3 (.seq (.drw true [5] [⟨some 21,none,.ld (some 1106) (.t 2)⟩,⟨some 22,none,.mov (.t 5)⟩,⟨some 23,none,.mov (.t 7)⟩,⟨some 24,none,.isl 8 (.t 22) (.t 23)⟩,⟨some 25,none,.ld (some 8) (.t 24)⟩,⟨some 26,none,.call 115 [(.t 21),(.t 25)]⟩,⟨some 8,none,.mov (.t 26)⟩]) (.seq (.reg [⟨some 9,none,.mov (.c (.int .i64 0))⟩]) (.block 4 (.loop (.seq (.seq (.reg [⟨some 27,none,.mov (.t 9)⟩,⟨some 28,none,.mov (.t 8)⟩,⟨some 29,none,.len (.t 28)⟩,⟨some 30,none,.bin .lss (.t 27) (.t 29)⟩]) (.cond (.t 30) .skip (.exit 4))) (.seq (.block 5 (.drw true [7] [⟨some 33,none,.fa 0 (.t 2)⟩,⟨some 34,none,.ld none (.t 33)⟩,⟨some 35,none,.mov (.t 6)⟩,⟨some 36,none,.mov (.t 8)⟩,⟨some 37,none,.mov (.t 9)⟩,⟨some 38,none,.isl 8 (.t 36) (.t 37)⟩,⟨some 39,none,.ld (some 8) (.t 38)⟩,⟨some 40,none,.call 18 [(.t 34),(.t 35),(.t 39)]⟩,⟨some 6,none,.mov (.t 40)⟩])) (.reg [⟨some 31,none,.mov (.t 9)⟩,⟨some 32,none,.bin .add (.t 31) (.c (.int .i64 1))⟩,⟨some 9,none,.mov (.t 32)⟩])))))))) (.reg [⟨some 19,none,.mov (.t 7)⟩,⟨some 20,none,.bin .add (.t 19) (.c (.int .i64 1))⟩,⟨some 7,none,.mov (.t 20)⟩])))))) (.seq (.seq (.reg [⟨some 41,none,.mov (.t 6)⟩,⟨some 42,none,.len (.t 41)⟩,⟨some 43,none,.mov (.t 5)⟩,⟨some 44,none,.len (.t 43)⟩,⟨some 45,none,.bin .eql (.t 42) (.t 44)⟩]) (.cond (.t 45) (.seq (.reg [⟨some 46,none,.mov (.t 5)⟩,⟨some 4,none,.mov (.t 46)⟩]) .ret) .skip)) (.reg [⟨some 47,none,.mov (.t 6)⟩,⟨some 5,none,.mov (.t 47)⟩])))))))))

set_option maxRecDepth 100000 in
theorem tr80 : trFn Tryz.prog Tryz.f80 = some (48, ir80, [.tmp 4]) := by kernel_rfl

theorem spec_l07Closed (h : HT) (a : Nat) (L : Nat → Nat → Int) (k lb : Nat) (lv : SV) (K : Nat → SV) (H : Hp) (n : Nat) (hS : HS h a) (hp : isP h.p = true) (hK : h.At K) (hB : h.By) (hk : k ≤ 1000000) (hL : VL H lv k L lb) (hLr : ∀ i, i < k → isRes h.p 8 (L i)) :
    FnS Tryz.prog 80 [.arr 1106 K, .s lv] H n (fun r H' n' => ∃ sv A d P b, r = .s sv ∧ VL H' sv d A b ∧ RR h.p A d P ∧ sub h.p L k A d ∧ legIn h a A d ∧ (∀ R c PR, RR h.p R c PR → same h.p R c L k → legIn h a R c → same h.p A d R c) ∧ n ≤ b ∧ b < n' ∧ (∀ x, n' ≤ x → H'.get x = none) ∧ ∀ x, x < n → H'.get x = H.get x) := by
  have hb := hS.hp
  have ha := hS.ha
  have k0 := hK.p
  refine FnS.of_body Tryz.func80 tr80 (by simp) (fun hf => ?_)
  dsimp only [argEnv]
  unfold ir80
  have hlb := hL.bound hf
  (refine zG ?_)
  refine RS.call rfl ((spec_l01Reduce h.p L k lb lv _ _ hp hk (hL.keep (by simp (disch := omega) only [Hp.get_ne])) hLr).mono ?_)
  rintro r H1 n1 hn1 ⟨sv0, A0, d0, P0, b0, rfl, V0, rr0, sm0, hb0, hb0n, hfr1, hlow1⟩
  have t0 : H1.get n = some ⟨1106, K, 38⟩ := by rw [hlow1 n (by omega)]; exact zH
  have lo1 : ∀ x, x < n → H1.get x = H.get x := fun x hx => by rw [hlow1 x (by omega)]; simp (disch := omega) only [Hp.get_ne]
  clear hlow1
  (refine zG ?_)
  refine CS.weak (e1 := [(2, ptr n 0), (5, .s sv0)]) (H1 := H1) (by (repeat first | exact trivial | refine And.intro rfl ?_)) (Drops.refl _ _) ?_
  refine CS.loop (fun kx e H2 n2 => ∃ v5 A d P b5, 8 - d ≤ kx ∧ e = [(2, ptr n 0), (5, .s v5)] ∧ VL H2 v5 d A b5 ∧ RR h.p A d P ∧ sub h.p L k A d ∧ (∀ R c PR, RR h.p R c PR → same h.p R c L k → legIn h a R c → same h.p A d R c) ∧ n ≤ b5 ∧ b5 < n2 ∧ H2.get n = some ⟨1106, K, 38⟩ ∧ (∀ x, x < n → H2.get x = H.get x) ∧ ∀ x, n2 ≤ x → H2.get x = none) 8 ?_ ?_
  · exact ⟨sv0, A0, d0, P0, b0, by omega, rfl, V0, rr0, sm0.2, fun R c PR rR sR cR => same_trans sm0 (same_symm sR), by omega, hb0n, t0, lo1, hfr1⟩
  clear t0 lo1 hfr1 hb0n V0 rr0 sm0
  rintro kx e H2 n2 hn2 ⟨v5, A, d, P, b5, hkx, rfl, V5, rr5, sub5, up5, hb5, hb5n, u0, lo2, hfr2⟩
  have hd8 := rr5.d8
  have hn2n := getlt hfr2 u0
  (refine zG ?_)
  refine CS.weak (e1 := [(7, i64 (((0 : Nat) : Int))), (2, ptr n 0), (5, .s v5), (6, .s v5)]) (H1 := H2) (by (repeat first | exact trivial | refine And.intro rfl ?_)) (Drops.refl _ _) ?_
  refine CS.loop (fun kx e H3 n3 => ∃ i v6 O e6 Q b6, i ≤ d ∧ kx = d - i ∧ e = [(7, i64 ((i : Nat))), (2, ptr n 0), (5, .s v5), (6, .s v6)] ∧ VL H3 v6 e6 O b6 ∧ RR h.p O e6 Q ∧ sub h.p A d O e6 ∧ (∀ i' q, i' < i → q < 2 * a → spn h.p O e6 (lgs (cps h.p h.c (A i') 8) q)) ∧ (∀ R c PR, RR h.p R c PR → same h.p A d R c → legIn h a R c → sub h.p O e6 R c) ∧ (b6 = b5 ∨ n2 ≤ b6) ∧ b6 < n3 ∧ (∀ x, x < n2 → H3.get x = H2.get x) ∧ ∀ x, n3 ≤ x → H3.get x = none) d ?_ ?_
  · exact ⟨0, v5, A, d, P, b5, by omega, rfl, rfl, V5, rr5, sub_refl _ _ _, fun i q hi => by omega, fun R c PR rR sR cR => sR.1, .inl rfl, hb5n, fun x hx => rfl, hfr2⟩
  rintro kx e H3 n3 hn3 ⟨i, v6, O, e6, Q, b6, hi, rfl, rfl, V6, rr6, sub6, dn6, up6, hb6, hb6n, lo3, hfr3⟩
  have V5' : VL H3 v5 d A b5 := V5.keep (lo3 b5 hb5n)
  have u3 : H3.get n = some ⟨1106, K, 38⟩ := by rw [lo3 n hn2n]; exact u0
  have he8 := rr6.d8
  obtain ⟨o5, c5, K5, rfl, g5, ho5, hm5, hc5⟩ := id V5'
  obtain ⟨o6, c6, K6, rfl, g6, ho6, hm6, hc6⟩ := id V6
  (refine zG ?_)
  refine zI ?_ ?_<;>intro h2
  · have hi' : i < d := by omega
    have e9 : ∀ q, q < 8 → K5.c (o5 + i * 8 + q) = .int .u8 (A i q) := fun q hq => by rw [Nat.add_assoc]; exact hc5 i q hi' hq
    have hAb : isBy 8 (A i) := isRes.by (rr5.res i hi') hb.2
    (repeat first|refine zG ?_|(refine LS.nilQ ?_;try with_reducible intro nq hnq;try refine zU ?_))
    refine RS.call rfl ((FnS.args (concs_cons (conc_arr (fun q hq => by first | rfl | (simp only [Nat.zero_add]; done) | (simp only [Nat.zero_add]; rfl))) rfl) (spec_l07Legs h a (A i) K _ _ hS hp hK hB hAb)).mono ?_)
    rintro r H4 n4 hn4 ⟨vl, Lg, l, PL, bl, rfl, VLg, rrL, smL, hbl, hbln, hfr4, hlow4⟩
    have hl8 := rrL.d8
    have w0 : H4.get n = some ⟨1106, K, 38⟩ := by rw [hlow4 n (by omega)]; exact u3
    obtain ⟨ol, cl, Kl, rfl, gl, hol, hml, hcl⟩ := id VLg
    have hLgR : ∀ R c PR, RR h.p R c PR → Go.V.same h.p A d R c → legIn h a R c → ∀ j, j < l → spn h.p R c (Lg j) := fun R c PR rR sR cR j hj => by
      obtain ⟨g, hg⟩ := smL.1 j hj
      exact spn_sum (fun q hq => legIn.same hb.1 rr5 rR sR cR i q hi' hq) hg
    (refine zG ?_)
    refine CS.weak (e1 := [(9, i64 (((0 : Nat) : Int))), (7, i64 ((i : Nat))), (2, ptr n 0), (5, .s (.slc b5 o5 d c5)), (6, .s (.slc b6 o6 e6 c6)), (8, .s (.slc bl ol l cl))]) (H1 := H4) (by (repeat first | exact trivial | refine And.intro rfl ?_)) (Drops.refl _ _) ?_
    refine CS.loop (fun kx e H5 n5 => ∃ j v7 O7 e7 Q7 b7, j ≤ l ∧ kx = l - j ∧ e = [(9, i64 ((j : Nat))), (7, i64 ((i : Nat))), (2, ptr n 0), (5, .s (.slc b5 o5 d c5)), (6, .s v7), (8, .s (.slc bl ol l cl))] ∧ VL H5 v7 e7 O7 b7 ∧ RR h.p O7 e7 Q7 ∧ sub h.p O e6 O7 e7 ∧ (∀ j', j' < j → spn h.p O7 e7 (Lg j')) ∧ (∀ R c PR, RR h.p R c PR → same h.p A d R c → legIn h a R c → sub h.p O7 e7 R c) ∧ (b7 = b5 ∨ n2 ≤ b7) ∧ b7 < n5 ∧ (∀ x, x < n4 → H5.get x = H4.get x) ∧ ∀ x, n5 ≤ x → H5.get x = none) l ?_ ?_
    · exact ⟨0, _, O, e6, Q, b6, by omega, rfl, rfl, V6.keep (hlow4 b6 (by omega)), rr6, sub_refl _ _ _, fun j hj => by omega, up6, hb6, by omega, fun x hx => rfl, hfr4⟩
    rintro kx e H5 n5 hn5 ⟨j, v7, O7, e7, Q7, b7, hj, rfl, rfl, V7, rr7, sub7, dn7, up7, hb7, hb7n, lo5, hfr5⟩
    have w5 : H5.get n = some ⟨1106, K, 38⟩ := by rw [lo5 n (by omega)]; exact w0
    have gl5 : H5.get bl = some Kl := by rw [lo5 bl hbln]; exact gl
    (refine zG ?_)
    refine zI ?_ ?_<;>intro h3
    · have hj' : j < l := by omega
      have e10 : ∀ q, q < 8 → Kl.c (ol + j * 8 + q) = .int .u8 (Lg j q) := fun q hq => by rw [Nat.add_assoc]; exact hcl j q hj' hq
      (repeat first|refine zG ?_|(refine LS.nilQ ?_;try with_reducible intro nq hnq;try refine zU ?_))
      refine RS.call rfl ((FnS.args (concs_cons rfl (concs_cons rfl (concs_cons (conc_arr (fun q hq => by first | rfl | (simp only [Nat.zero_add]; done) | (simp only [Nat.zero_add]; rfl))) rfl))) (spec_l01Put h.p O7 e7 b7 Q7 v7 (Lg j) _ _ hp V7 rr7 (rrL.res j hj'))).mono ?_)
      rintro r H6 n6 hn6 ⟨v8, O8, e8, Q8, b8, rfl, V8, rr8, sm8, hb8, hb8n, hfr6, hlow6⟩
      obtain ⟨p1, p2, p3⟩ := put_sub sm8
      (refine zG ?_)
      exact ⟨l - (j + 1), [(9, i64 (((j + 1 : Nat) : Int))), (7, i64 ((i : Nat))), (2, ptr n 0), (5, .s (.slc b5 o5 d c5)), (6, .s v8), (8, .s (.slc bl ol l cl))], H6, by omega, by (repeat first | exact trivial | refine And.intro rfl ?_), Drops.refl _ _, j + 1, v8, O8, e8, Q8, b8, by omega, rfl, rfl, V8, rr8, sub_trans sub7 p1, fun j2 hj2 => by
        by_cases e : j2 = j
        · rw [e]; exact p2
        · exact sub_spn p1 (dn7 j2 (by omega)), fun R c PR rR sR cR => p3 R c (up7 R c PR rR sR cR) (hLgR R c PR rR sR cR j hj'), by rcases hb8 with e | e <;> omega, hb8n, fun x hx => by rw [hlow6 x (by omega)]; exact lo5 x hx, hfr6⟩
    obtain rfl : l = j := by omega
    (refine zG ?_)
    exact ⟨d - (i + 1), [(7, i64 (((i + 1 : Nat) : Int))), (2, ptr n 0), (5, .s (.slc b5 o5 d c5)), (6, .s v7)], H5, by omega, by (repeat first | exact trivial | refine And.intro rfl ?_), Drops.refl _ _, i + 1, v7, O7, e7, Q7, b7, by omega, rfl, rfl, V7, rr7, sub_trans sub6 sub7, fun i2 q hi2 hq => by
      by_cases e : i2 = i
      · rw [e]
        obtain ⟨g, hg⟩ := smL.2 q hq
        exact spn_sum dn7 hg
      · exact sub_spn sub7 (dn6 i2 q (by omega) hq), up7, hb7, hb7n, fun x hx => by rw [lo5 x (by omega), hlow4 x (by omega)]; exact lo3 x hx, hfr5⟩
  obtain rfl : d = i := by omega
  (refine zG ?_)
  refine zI ?_ ?_<;>intro h4
  · obtain rfl : e6 = d := by omega
    have sf := RR.full hb.1 rr5 rr6 sub6
    (refine zG ?_)
    exact ⟨.s (.slc b5 o5 e6 c5), H3, rfl, Drops.refl _ _, _, A, e6, P, b5, rfl, V5', rr5, sub5, fun i q hi hq => sub_spn sf.2 (dn6 i q hi hq), up5, hb5, by omega, hfr3, fun x hx => by rw [lo3 x (by omega)]; exact lo2 x hx⟩
  · have hle := RR.le hb.1 rr5 rr6 sub6
    (refine zG ?_)
    exact ⟨8 - e6, [(2, ptr n 0), (5, .s (.slc b6 o6 e6 c6))], H3, by omega, by (repeat first | exact trivial | refine And.intro rfl ?_), Drops.refl _ _, _, O, e6, Q, b6, Nat.le_refl _, rfl, V6, rr6, sub_trans sub5 sub6, fun R c PR rR sR cR => by
      have s1 := up5 R c PR rR sR cR
      exact ⟨up6 R c PR rR s1 cR, sub_trans s1.2 sub6⟩, by omega, hb6n, u3, fun x hx => by rw [lo3 x (by omega)]; exact lo2 x hx, hfr3⟩

end Go.Proofs.YtideblodkkgodaaGreat
