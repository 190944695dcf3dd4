/- Contracts of the program's functions. -/
import Derived.Test.YtideblodkkgodaaGreatJam
import Derived.Test.YtideblodkkgodaaGreatJal
import Derived.Test.YtideblodkkgodaaGreatJao
import Derived.Test.YtideblodkkgodaaGreatJap
set_option linter.unusedSectionVars false
set_option linter.unusedVariables false
set_option linter.unusedSimpArgs false

namespace Go.Proofs.YtideblodkkgodaaGreat

open Go.V

variable [BW]

set_option linter.unusedSimpArgs false

set_option linter.unusedVariables false

set_option maxHeartbeats 4000000

/-- spec.l01Linear -/
def ir77 : Cd := (.seq (.reg [⟨some 5,none,.box 34 (.t 2)⟩,⟨some 6,none,.mov (.c (.bool false))⟩]) (.seq (.seq (.reg [⟨some 7,none,.mov (.c (.int .i64 0))⟩]) (.block 0 (.loop (.seq (.seq (.reg [⟨some 8,none,.mov (.t 7)⟩,⟨some 9,none,.bin .lss (.t 8) (.c (.int .i64 8))⟩]) (.cond (.t 9) .skip (.exit 0))) (.seq (.block 1 (.seq (.reg [⟨some 12,none,.mov (.t 0)⟩,⟨some 13,none,.mov (.t 1)⟩,⟨some 14,none,.mov (.t 7)⟩,⟨some 15,none,.ia 8 8 (.t 5) (.t 14)⟩,⟨some 16,none,.ld (some 8) (.t 15)⟩,⟨some 17,none,.call 36 [(.t 12),(.t 13),(.t 16)]⟩,⟨some 18,none,.un .not (.t 17)⟩,⟨some 19,none,.mov (.t 18)⟩,⟨some 20,(some (19,false)),.mov (.t 7)⟩,⟨some 21,(some (19,false)),.mov (.t 1)⟩,⟨some 22,(some (19,false)),.bin .geq (.t 20) (.t 21)⟩,⟨some 23,(some (19,false)),.mov (.t 22)⟩,⟨some 24,(some (23,true)),.mov (.t 7)⟩,⟨some 25,(some (23,true)),.ia 8 8 (.t 5) (.t 24)⟩,⟨some 26,(some (23,true)),.ld (some 8) (.t 25)⟩,⟨some 27,(some (23,true)),.build 8 [(8,(.int .u8 0))] []⟩,⟨some 28,(some (23,true)),.eqa true 8 (.t 26) (.t 27)⟩,⟨some 29,(some (19,false)),.pick (.t 23) (.t 28) (.c (.bool false))⟩,⟨some 30,none,.pick (.t 19) (.c (.bool true)) (.t 29)⟩]) (.cond (.t 30) (.seq (.reg [⟨some 6,none,.mov (.c (.bool false))⟩]) .ret) .skip))) (.reg [⟨some 10,none,.mov (.t 7)⟩,⟨some 11,none,.bin .add (.t 10) (.c (.int .i64 1))⟩,⟨some 7,none,.mov (.t 11)⟩])))))) (.seq (.reg [⟨some 6,none,.mov (.c (.bool true))⟩]) .ret)))

set_option maxRecDepth 100000 in
theorem tr77 : trFn Tryz.prog Tryz.f77 = some (31, ir77, [.tmp 6]) := by kernel_rfl

theorem spec_l01Linear (p n' : Int) (l : Nat → Int) (H : Hp) (n : Nat) (hl : isBy 64 l) :
    FnS Tryz.prog 77 [i64 p, i64 n', .arr 64 (bys l)] H n (fun r H' _ => r = bl (tb (isLin p n' n' l)) ∧ H' = H) := by
  have hk : ∀ i, i < 64 → bys l (0 + i) = .int .u8 (l i) := fun i _ => by rw [Nat.zero_add]; rfl
  refine FnS.of_body Tryz.func77 tr77 (by simp) (fun hf => ?_)
  dsimp only [argEnv]
  unfold ir77
  (refine zG ?_)
  refine CS.iter 8 (fun i => [(7, i64 i), (5, ptr n 0), (0, i64 p), (1, i64 n')]) (fun _ => (n, ⟨64, bys l, 34⟩) :: H) (fun i => ∀ j : Nat, j < i → isVec p n' (fun x => l (8 * j + x)) ∧ (n' ≤ j → ∀ x, x < 8 → l (8 * j + x) = 0)) (by (repeat first | exact trivial | refine And.intro rfl ?_)) (Drops.refl _ _) (fun j hj => by omega) ?_
  intro i n1 hi hn hJ
  (refine zG ?_)
  refine zI ?_ ?_<;>intro h1
  · (refine zG ?_)
    refine RS.call rfl ((spec_l01Vector p n' (fun x => l (8 * i + x)) _ _ (fun x hx => hl _ (by omega))).mono ?_)
    rintro r H' n2 hn2 ⟨rfl, rfl⟩
    (refine zG ?_)
    refine RS.sp (t := 19) rfl (fun h2 => ?_) (fun h2 => ?_) <;> (try simp only [tb_eq, tb_eqF, decide_eq_true_eq, decide_eq_false_iff_not, beq_iff_eq, bne_iff_ne, ne_eq, Decidable.not_not, beq_eq_false_iff_ne, bne_eq_false_iff_eq, Bool.not_eq_true', Bool.not_eq_false', Bool.not_eq_eq_eq_not, Bool.not_true, Bool.not_false] at h2)
    · (refine zG ?_)
      exact ⟨_, H, rfl, by exact zD, by rw [tb_false (fun h => h2 (h i (by omega)).1)], rfl⟩
    · (refine zG ?_)
      refine RS.sp (t := 23) rfl (fun h3 => ?_) (fun h3 => ?_) <;> (try simp only [tb_eq, tb_eqF, decide_eq_true_eq, decide_eq_false_iff_not, beq_iff_eq, bne_iff_ne, ne_eq, Decidable.not_not, beq_eq_false_iff_ne, bne_eq_false_iff_eq, Bool.not_eq_true', Bool.not_eq_false', Bool.not_eq_eq_eq_not, Bool.not_true, Bool.not_false] at h3)
      · (refine zG ?_)
        refine zI ?_ ?_<;>intro h4
        · (refine zG ?_)
          exact ⟨_, H, rfl, by exact zD, by rw [tb_false (fun h => h4 (fun x hx => (h i (by omega)).2 (by omega) x hx))], rfl⟩
        · (refine zG ?_)
          refine ⟨by omega, by (repeat first | exact trivial | refine And.intro rfl ?_), by exact zD, fun j hj => ?_⟩
          by_cases e : j < i
          · exact hJ j e
          · have : j = i := by omega
            subst this; exact ⟨h2, fun _ => h4⟩
      · (refine zG ?_)
        refine ⟨by omega, by (repeat first | exact trivial | refine And.intro rfl ?_), by exact zD, fun j hj => ?_⟩
        by_cases e : j < i
        · exact hJ j e
        · have : j = i := by omega
          subst this; exact ⟨h2, fun h => by omega⟩
  · (refine zG ?_)
    exact ⟨_, H, rfl, by exact zD, by rw [tb_true (show isLin p n' n' l from fun j hj => hJ j (by omega))], rfl⟩

/-- spec.l01Add -/
def ir42 : Cd := (.seq (.reg [⟨some 5,none,.box 32 (.t 1)⟩,⟨some 6,none,.box 32 (.t 2)⟩,⟨some 8,none,.new 32 [(8,(.int .u8 0))]⟩]) (.seq (.seq (.reg [⟨some 9,none,.mov (.c (.int .i64 0))⟩]) (.block 0 (.loop (.seq (.seq (.reg [⟨some 10,none,.mov (.t 9)⟩,⟨some 11,none,.bin .lss (.t 10) (.c (.int .i64 8))⟩]) (.cond (.t 11) .skip (.exit 0))) (.seq (.block 1 (.drw true [15] [⟨some 14,none,.mov (.t 9)⟩,⟨some 15,none,.mov (.t 0)⟩,⟨some 16,none,.mov (.t 9)⟩,⟨some 17,none,.ia 8 1 (.t 5) (.t 16)⟩,⟨some 18,none,.ld none (.t 17)⟩,⟨some 19,none,.cv .i64 (.t 18)⟩,⟨some 20,none,.mov (.t 3)⟩,⟨some 21,none,.mov (.t 9)⟩,⟨some 22,none,.ia 8 1 (.t 6) (.t 21)⟩,⟨some 23,none,.ld none (.t 22)⟩,⟨some 24,none,.cv .i64 (.t 23)⟩,⟨some 25,none,.bin .mul (.t 20) (.t 24)⟩,⟨some 26,none,.bin .add (.t 19) (.t 25)⟩,⟨some 27,none,.call 61 [(.t 15),(.t 26)]⟩,⟨some 28,none,.ia 8 1 (.t 5) (.t 14)⟩,⟨none,none,.st 1 (.t 28) (.t 27)⟩])) (.reg [⟨some 12,none,.mov (.t 9)⟩,⟨some 13,none,.bin .add (.t 12) (.c (.int .i64 1))⟩,⟨some 9,none,.mov (.t 13)⟩])))))) (.seq (.reg [⟨some 29,none,.ld (some 8) (.t 5)⟩,⟨none,none,.st 8 (.t 8) (.t 29)⟩]) .ret)))

set_option maxRecDepth 100000 in
theorem tr42 : trFn Tryz.prog Tryz.f42 = some (30, ir42, [.cell (some 8) 8]) := by kernel_rfl

theorem spec_l01Add (p k : Int) (v w : Nat → Int) (H : Hp) (n : Nat) (hp : 2 ≤ p ∧ p ≤ 31) (hv : isBy 8 v) (hw : isBy 8 w) (hk : 0 ≤ k ∧ k ≤ 100000) :
    FnS Tryz.prog 42 [i64 p, .arr 8 (bys v), .arr 8 (bys w), i64 k] H n (fun r H' _ => r = .arr 8 (bys (pl p v k w)) ∧ H' = H) := by
  refine FnS.of_body Tryz.func42 tr42 (by simp) (fun hf => ?_)
  dsimp only [argEnv]
  unfold ir42
  (refine zG ?_)
  refine CS.iter 8 (fun i => [(9, i64 i), (8, ptr (n + 2) 0), (6, ptr (n + 1) 0), (5, ptr n 0), (0, i64 p), (3, i64 k)])
    (fun i => (n + 2, ⟨8, bys (fun _ => 0), 32⟩) :: (n + 1, ⟨8, bys w, 32⟩) :: (n, ⟨8, bys (prt (pl p v k w) v i), 32⟩) :: H) (fun _ => True) (by (repeat first | exact trivial | refine And.intro rfl ?_))
    (Drops.keepc rfl rfl (fun _ _ => rfl) (Drops.keepc rfl rfl (fun _ _ => rfl) (by rw [prt_zero]; exact Drops.refl _ _))) trivial ?_
  intro i n1 hi hn _
  (refine zG ?_)
  refine zI ?_ ?_<;>intro h1
  · have hpi := prt_at (pl p v k w) v i
    have hvi := hv i (by omega)
    have hwi := hw i (by omega)
    have hm := mulB hk.1 hk.2 hwi.1 hwi.2
    have hb := modB (v i + k * w i) hp.1
    have hpl : (prt (pl p v k w) v i i + k * w i) % p = pl p v k w i := by rw [hpi]; rfl
    have hplb : 0 ≤ pl p v k w i ∧ pl p v k w i < p := hb
    (refine zG ?_)
    refine LS.callQ (u8 (pl p v k w i)) rfl (fun n' hn' => (spec_l01Mod p (prt (pl p v k w) v i i + k * w i) _ _ hp.1 hp.2 (by omega)).mono (fun r H' _ _ h => by rw [hpl] at h; exact h)) ?_
    (repeat first|refine zG ?_|(refine LS.nilO ?_;intro nq hnq hltq;try refine zU ?_)|(refine MS.new ?_;intro bq hbq hbqf;try refine zU ?_)|(refine MS.nil ?_;intro nq hnq hltq;have hlq:=hltq _ _ (Hp.get_eq _ _ _);clear hltq;try refine zU ?_)|(refine LS.nilQ ?_;try with_reducible intro nq hnq;try refine zU ?_))
    exact ⟨by omega, by (repeat first | exact trivial | refine And.intro rfl ?_), Drops.keepc rfl rfl (fun _ _ => rfl) (Drops.keepc rfl rfl (fun _ _ => rfl) (Drops.keepc rfl rfl (fun q hq => prt_put _ _ _ _) (Drops.refl _ _))), trivial⟩
  · have : i = 8 := by omega
    subst this
    (refine zG ?_)
    exact ⟨.arr 8 (bys (pl p v k w)), H, conc_arr (fun q hq => congrArg (SV.int .u8) (by simp only [Nat.zero_add]; exact prt_all _ _ _ _ hq)), by exact zD, rfl, rfl⟩

/-- spec.l02Sums -/
def ir144 : Cd := (.seq (.reg [⟨some 5,none,.box 122 (.t 0)⟩,⟨some 10,none,.mov (.c (.int .u8 0))⟩,⟨some 11,none,.mov (.c (.int .u8 0))⟩]) (.seq (.reg [⟨some 12,none,.mov (.c (.int .i64 0))⟩,⟨some 13,none,.mov (.c (.int .i64 0))⟩]) (.seq (.seq (.reg [⟨some 14,none,.mov (.c (.int .i64 0))⟩]) (.block 0 (.loop (.seq (.seq (.reg [⟨some 15,none,.mov (.t 14)⟩,⟨some 16,none,.fa 1 (.t 5)⟩,⟨some 17,none,.ld none (.t 16)⟩,⟨some 18,none,.bin .lss (.t 15) (.t 17)⟩]) (.cond (.t 18) .skip (.exit 0))) (.seq (.block 1 (.seq (.drw true [] [⟨some 21,none,.mov (.t 12)⟩,⟨some 22,none,.mov (.t 1)⟩,⟨some 23,none,.mov (.t 14)⟩,⟨some 24,none,.mov (.t 4)⟩,⟨some 25,none,.fa 10 (.t 5)⟩,⟨some 26,none,.ia 8 64 (.t 25) (.t 22)⟩,⟨some 27,none,.ia 8 8 (.t 26) (.t 23)⟩,⟨some 28,none,.ia 8 1 (.t 27) (.t 24)⟩,⟨some 29,none,.ld none (.t 28)⟩,⟨some 30,none,.cv .i64 (.t 29)⟩,⟨some 31,none,.mov (.t 14)⟩,⟨some 32,none,.mov (.t 2)⟩,⟨some 33,none,.mov (.t 3)⟩,⟨some 34,none,.fa 10 (.t 5)⟩,⟨some 35,none,.ia 8 64 (.t 34) (.t 31)⟩,⟨some 36,none,.ia 8 8 (.t 35) (.t 32)⟩,⟨some 37,none,.ia 8 1 (.t 36) (.t 33)⟩,⟨some 38,none,.ld none (.t 37)⟩,⟨some 39,none,.cv .i64 (.t 38)⟩,⟨some 40,none,.bin .mul (.t 30) (.t 39)⟩,⟨some 41,none,.bin .add (.t 21) (.t 40)⟩,⟨some 12,none,.mov (.t 41)⟩]) (.drw true [] [⟨some 42,none,.mov (.t 13)⟩,⟨some 43,none,.mov (.t 1)⟩,⟨some 44,none,.mov (.t 2)⟩,⟨some 45,none,.mov (.t 14)⟩,⟨some 46,none,.fa 10 (.t 5)⟩,⟨some 47,none,.ia 8 64 (.t 46) (.t 43)⟩,⟨some 48,none,.ia 8 8 (.t 47) (.t 44)⟩,⟨some 49,none,.ia 8 1 (.t 48) (.t 45)⟩,⟨some 50,none,.ld none (.t 49)⟩,⟨some 51,none,.cv .i64 (.t 50)⟩,⟨some 52,none,.mov (.t 14)⟩,⟨some 53,none,.mov (.t 3)⟩,⟨some 54,none,.mov (.t 4)⟩,⟨some 55,none,.fa 10 (.t 5)⟩,⟨some 56,none,.ia 8 64 (.t 55) (.t 52)⟩,⟨some 57,none,.ia 8 8 (.t 56) (.t 53)⟩,⟨some 58,none,.ia 8 1 (.t 57) (.t 54)⟩,⟨some 59,none,.ld none (.t 58)⟩,⟨some 60,none,.cv .i64 (.t 59)⟩,⟨some 61,none,.bin .mul (.t 51) (.t 60)⟩,⟨some 62,none,.bin .add (.t 42) (.t 61)⟩,⟨some 13,none,.mov (.t 62)⟩]))) (.reg [⟨some 19,none,.mov (.t 14)⟩,⟨some 20,none,.bin .add (.t 19) (.c (.int .i64 1))⟩,⟨some 14,none,.mov (.t 20)⟩])))))) (.seq (.drw true [7] [⟨some 63,none,.fa 0 (.t 5)⟩,⟨some 64,none,.ld none (.t 63)⟩,⟨some 65,none,.mov (.t 12)⟩,⟨some 66,none,.call 61 [(.t 64),(.t 65)]⟩,⟨some 67,none,.fa 0 (.t 5)⟩,⟨some 68,none,.ld none (.t 67)⟩,⟨some 69,none,.mov (.t 13)⟩,⟨some 70,none,.call 61 [(.t 68),(.t 69)]⟩,⟨some 10,none,.mov (.t 66)⟩,⟨some 11,none,.mov (.t 70)⟩]) .ret))))

set_option maxRecDepth 100000 in
theorem tr144 : trFn Tryz.prog Tryz.f144 = some (71, ir144, [.tmp 10, .tmp 11]) := by kernel_rfl

theorem spec_l02Sums (p : Int) (a i j k l : Nat) (ii jj kk ll : Int) (c : Nat → Int) (K : Nat → SV) (H : Hp) (n : Nat) (hp : 2 ≤ p ∧ p ≤ 31) (ha : a ≤ 8) (hi : i < a ∧ ii = i) (hj : j < a ∧ jj = j) (hk : k < a ∧ kk = k) (hl : l < a ∧ ll = l)
    (h0 : K 0 = .int .i64 p) (h1 : K 1 = .int .i64 a) (hK : ∀ q, q < 512 → K (10 + q) = .int .u8 (c q)) (hc : isBy 512 c) :
    FnS Tryz.prog 144 [.arr 522 K, i64 ii, i64 jj, i64 kk, i64 ll] H n (fun r H' _ => r = .tup [u8 (cosum1 p c i j k l a), u8 (cosum2 p c i j k l a)] ∧ H' = H) := by
  obtain ⟨hi, rfl⟩ := hi
  obtain ⟨hj, rfl⟩ := hj
  obtain ⟨hk, rfl⟩ := hk
  obtain ⟨hl, rfl⟩ := hl
  refine FnS.of_body Tryz.func144 tr144 (by simp) (fun hf => ?_)
  dsimp only [argEnv]
  unfold ir144
  (refine zG ?_)
  refine CS.iter a (fun x => [(14, i64 x), (12, i64 (sm (fun a => c (64 * i + 8 * a + l) * c (64 * a + 8 * j + k)) x)), (13, i64 (sm (fun a => c (64 * i + 8 * j + a) * c (64 * a + 8 * k + l)) x)), (5, ptr n 0), (1, i64 i), (2, i64 j), (3, i64 k), (4, i64 l)])
    (fun _ => (n, ⟨522, K, 122⟩) :: H) (fun _ => True) (by (repeat first | exact trivial | refine And.intro rfl ?_)) (by exact zD) trivial ?_
  intro x n3 hx hn _
  have hs1 := sm_b (f := fun a => c (64 * i + 8 * a + l) * c (64 * a + 8 * j + k)) (B := 65025) (n := x) (fun q hq => by
    have h1 := hc (64 * i + 8 * q + l) (by omega)
    have h2 := hc (64 * q + 8 * j + k) (by omega)
    exact mulB h1.1 h1.2 h2.1 h2.2)
  have hs2 := sm_b (f := fun a => c (64 * i + 8 * j + a) * c (64 * a + 8 * k + l)) (B := 65025) (n := x) (fun q hq => by
    have h1 := hc (64 * i + 8 * j + q) (by omega)
    have h2 := hc (64 * q + 8 * k + l) (by omega)
    exact mulB h1.1 h1.2 h2.1 h2.2)
  (refine zG ?_)
  refine zI ?_ ?_<;>intro h2
  · have g1 := hc (64 * i + 8 * x + l) (by omega)
    have g2 := hc (64 * x + 8 * j + k) (by omega)
    have g3 := mulB g1.1 g1.2 g2.1 g2.2
    have g4 := hc (64 * i + 8 * j + x) (by omega)
    have g5 := hc (64 * x + 8 * k + l) (by omega)
    have g6 := mulB g4.1 g4.2 g5.1 g5.2
    (repeat first|refine zG ?_|(refine LS.nilO ?_;intro nq hnq hltq;try refine zU ?_)|(refine MS.new ?_;intro bq hbq hbqf;try refine zU ?_)|(refine MS.nil ?_;intro nq hnq hltq;have hlq:=hltq _ _ (Hp.get_eq _ _ _);clear hltq;try refine zU ?_)|(refine LS.nilQ ?_;try with_reducible intro nq hnq;try refine zU ?_))
    exact ⟨by omega, by (repeat first | exact trivial | refine And.intro rfl ?_), Drops.refl _ _, trivial⟩
  · have : x = a := by omega
    subst this
    (refine zG ?_)
    refine LS.callQ (u8 (cosum1 p c i j k l x)) rfl (fun n' hn' => spec_l01Mod p _ _ _ hp.1 hp.2 (by omega)) ?_
    (repeat first|refine zG ?_|(refine LS.nilO ?_;intro nq hnq hltq;try refine zU ?_)|(refine MS.new ?_;intro bq hbq hbqf;try refine zU ?_)|(refine MS.nil ?_;intro nq hnq hltq;have hlq:=hltq _ _ (Hp.get_eq _ _ _);clear hltq;try refine zU ?_)|(refine LS.nilQ ?_;try with_reducible intro nq hnq;try refine zU ?_))
    refine RS.call rfl ((spec_l01Mod p _ _ _ hp.1 hp.2 (by omega)).mono ?_)
    rintro r H n7 hn7 ⟨rfl, rfl⟩
    (refine zG ?_)
    exact ⟨_, H, rfl, by exact zD, rfl, rfl⟩

end Go.Proofs.YtideblodkkgodaaGreat
