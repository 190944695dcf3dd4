/- Contracts of the program's functions. -/
import Derived.Test.YtideblodkkgodaaGreatJam
import Derived.Test.YtideblodkkgodaaGreatJal
import Derived.Test.YtideblodkkgodaaGreatJbb
import Derived.Test.YtideblodkkgodaaGreatJbd
set_option linter.unusedSectionVars false
set_option linter.unusedVariables false
set_option linter.unusedSimpArgs false

namespace Go.Proofs.YtideblodkkgodaaGreat

open Go.V

variable [BW]

set_option linter.unusedSimpArgs false

set_option linter.unusedVariables false

set_option maxHeartbeats 4000000

/-- spec.l03Bialgebra -/
def ir78 : Cd := (.seq (.reg [⟨some 1,none,.box 38 (.t 0)⟩,⟨some 2,none,.mov (.c (.int .i64 0))⟩]) (.seq (.mix [⟨some 11,none,.fa 1 (.t 1)⟩,⟨some 12,none,.ld none (.t 11)⟩,⟨some 13,none,.ld (some 1106) (.t 1)⟩,⟨some 14,none,.call 20 [(.t 13)]⟩] [⟨some 4,none,.new 52 [(2,(.int .i64 0)),(520,(.int .u8 0))]⟩,⟨some 3,none,.mov (.t 12)⟩,⟨none,none,.st 522 (.t 4) (.t 14)⟩]) (.seq (.block 0 (.seq (.reg [⟨some 16,none,.ld (some 522) (.t 4)⟩,⟨some 17,none,.call 109 [(.t 16)]⟩,⟨some 18,none,.un .not (.t 17)⟩,⟨some 15,none,.mov (.t 18)⟩]) (.cond (.t 15) (.seq (.reg [⟨some 2,none,.mov (.c (.int .i64 1))⟩]) .ret) (.seq (.reg [⟨some 20,none,.ld (some 1106) (.t 1)⟩,⟨some 21,none,.call 111 [(.t 20)]⟩,⟨some 22,none,.call 110 [(.t 21)]⟩,⟨some 23,none,.un .not (.t 22)⟩,⟨some 19,none,.mov (.t 23)⟩]) (.cond (.t 19) (.seq (.reg [⟨some 2,none,.mov (.c (.int .i64 2))⟩]) .ret) .skip))))) (.seq (.seq (.reg [⟨some 5,none,.mov (.c (.int .i64 0))⟩]) (.block 1 (.loop (.seq (.seq (.reg [⟨some 24,none,.mov (.t 5)⟩,⟨some 25,none,.mov (.t 3)⟩,⟨some 26,none,.bin .lss (.t 24) (.t 25)⟩]) (.cond (.t 26) .skip (.exit 1))) (.seq (.block 2 (.seq (.reg [⟨some 6,none,.mov (.c (.int .i64 0))⟩]) (.block 3 (.loop (.seq (.seq (.reg [⟨some 29,none,.mov (.t 6)⟩,⟨some 30,none,.mov (.t 3)⟩,⟨some 31,none,.bin .lss (.t 29) (.t 30)⟩]) (.cond (.t 31) .skip (.exit 3))) (.seq (.block 4 (.seq (.drw true [17] [⟨some 34,none,.ld (some 1106) (.t 1)⟩,⟨some 35,none,.mov (.t 5)⟩,⟨some 36,none,.mov (.t 6)⟩,⟨some 37,none,.fa 10 (.t 1)⟩,⟨some 38,none,.ia 8 64 (.t 37) (.t 35)⟩,⟨some 39,none,.ia 8 8 (.t 38) (.t 36)⟩,⟨some 40,none,.ld (some 8) (.t 39)⟩,⟨some 41,none,.call 59 [(.t 34),(.t 40)]⟩,⟨some 42,none,.ld (some 1106) (.t 1)⟩,⟨some 43,none,.mov (.t 5)⟩,⟨some 44,none,.fa 530 (.t 1)⟩,⟨some 45,none,.ia 8 64 (.t 44) (.t 43)⟩,⟨some 46,none,.ld (some 64) (.t 45)⟩,⟨some 47,none,.mov (.t 6)⟩,⟨some 48,none,.fa 530 (.t 1)⟩,⟨some 49,none,.ia 8 64 (.t 48) (.t 47)⟩,⟨some 50,none,.ld (some 64) (.t 49)⟩,⟨some 51,none,.call 112 [(.t 42),(.t 46),(.t 50)]⟩,⟨some 52,none,.eqa true 64 (.t 41) (.t 51)⟩]) (.cond (.t 52) (.seq (.reg [⟨some 2,none,.mov (.c (.int .i64 3))⟩]) .ret) .skip))) (.reg [⟨some 32,none,.mov (.t 6)⟩,⟨some 33,none,.bin .add (.t 32) (.c (.int .i64 1))⟩,⟨some 6,none,.mov (.t 33)⟩]))))))) (.reg [⟨some 27,none,.mov (.t 5)⟩,⟨some 28,none,.bin .add (.t 27) (.c (.int .i64 1))⟩,⟨some 5,none,.mov (.t 28)⟩])))))) (.seq (.reg [⟨some 53,none,.ld (some 1106) (.t 1)⟩,⟨some 54,none,.fa 2 (.t 1)⟩,⟨some 55,none,.ld (some 8) (.t 54)⟩,⟨some 56,none,.call 59 [(.t 53),(.t 55)]⟩,⟨some 7,none,.new 34 [(64,(.int .u8 0))]⟩,⟨none,none,.st 64 (.t 7) (.t 56)⟩]) (.seq (.seq (.reg [⟨some 8,none,.mov (.c (.int .i64 0))⟩]) (.block 5 (.loop (.seq (.seq (.reg [⟨some 57,none,.mov (.t 8)⟩,⟨some 58,none,.mov (.t 3)⟩,⟨some 59,none,.bin .lss (.t 57) (.t 58)⟩]) (.cond (.t 59) .skip (.exit 5))) (.seq (.block 6 (.seq (.drw true [] [⟨some 62,none,.mov (.t 8)⟩,⟨some 63,none,.ia 8 8 (.t 7) (.t 62)⟩,⟨some 64,none,.ld (some 8) (.t 63)⟩,⟨some 65,none,.fa 0 (.t 1)⟩,⟨some 66,none,.ld none (.t 65)⟩,⟨some 67,none,.build 8 [(8,(.int .u8 0))] []⟩,⟨some 68,none,.fa 2 (.t 1)⟩,⟨some 69,none,.ld (some 8) (.t 68)⟩,⟨some 70,none,.mov (.t 8)⟩,⟨some 71,none,.fa 2 (.t 1)⟩,⟨some 72,none,.ia 8 1 (.t 71) (.t 70)⟩,⟨some 73,none,.ld none (.t 72)⟩,⟨some 74,none,.cv .i64 (.t 73)⟩,⟨some 75,none,.call 42 [(.t 66),(.t 67),(.t 69),(.t 74)]⟩,⟨some 76,none,.eqa true 8 (.t 64) (.t 75)⟩]) (.cond (.t 76) (.seq (.reg [⟨some 2,none,.mov (.c (.int .i64 4))⟩]) .ret) .skip))) (.reg [⟨some 60,none,.mov (.t 8)⟩,⟨some 61,none,.bin .add (.t 60) (.c (.int .i64 1))⟩,⟨some 8,none,.mov (.t 61)⟩])))))) (.seq (.seq (.reg [⟨some 9,none,.mov (.c (.int .i64 0))⟩]) (.block 7 (.loop (.seq (.seq (.reg [⟨some 77,none,.mov (.t 9)⟩,⟨some 78,none,.mov (.t 3)⟩,⟨some 79,none,.bin .lss (.t 77) (.t 78)⟩]) (.cond (.t 79) .skip (.exit 7))) (.seq (.block 8 (.seq (.reg [⟨some 10,none,.mov (.c (.int .i64 0))⟩]) (.block 9 (.loop (.seq (.seq (.reg [⟨some 82,none,.mov (.t 10)⟩,⟨some 83,none,.mov (.t 3)⟩,⟨some 84,none,.bin .lss (.t 82) (.t 83)⟩]) (.cond (.t 84) .skip (.exit 9))) (.seq (.block 10 (.seq (.drw true [] [⟨some 87,none,.ld (some 1106) (.t 1)⟩,⟨some 88,none,.mov (.t 9)⟩,⟨some 89,none,.mov (.t 10)⟩,⟨some 90,none,.fa 10 (.t 1)⟩,⟨some 91,none,.ia 8 64 (.t 90) (.t 88)⟩,⟨some 92,none,.ia 8 8 (.t 91) (.t 89)⟩,⟨some 93,none,.ld (some 8) (.t 92)⟩,⟨some 94,none,.call 113 [(.t 87),(.t 93)]⟩,⟨some 95,none,.mov (.t 9)⟩,⟨some 96,none,.fa 522 (.t 1)⟩,⟨some 97,none,.ia 8 1 (.t 96) (.t 95)⟩,⟨some 98,none,.ld none (.t 97)⟩,⟨some 99,none,.cv .i64 (.t 98)⟩,⟨some 100,none,.mov (.t 10)⟩,⟨some 101,none,.fa 522 (.t 1)⟩,⟨some 102,none,.ia 8 1 (.t 101) (.t 100)⟩,⟨some 103,none,.ld none (.t 102)⟩,⟨some 104,none,.cv .i64 (.t 103)⟩,⟨some 105,none,.bin .mul (.t 99) (.t 104)⟩,⟨some 106,none,.fa 0 (.t 1)⟩,⟨some 107,none,.ld none (.t 106)⟩,⟨some 108,none,.bin .rem (.t 105) (.t 107)⟩,⟨some 109,none,.bin .neq (.t 94) (.t 108)⟩]) (.cond (.t 109) (.seq (.reg [⟨some 2,none,.mov (.c (.int .i64 5))⟩]) .ret) .skip))) (.reg [⟨some 85,none,.mov (.t 10)⟩,⟨some 86,none,.bin .add (.t 85) (.c (.int .i64 1))⟩,⟨some 10,none,.mov (.t 86)⟩]))))))) (.reg [⟨some 80,none,.mov (.t 9)⟩,⟨some 81,none,.bin .add (.t 80) (.c (.int .i64 1))⟩,⟨some 9,none,.mov (.t 81)⟩])))))) (.seq (.seq (.reg [⟨some 110,none,.ld (some 1106) (.t 1)⟩,⟨some 111,none,.fa 2 (.t 1)⟩,⟨some 112,none,.ld (some 8) (.t 111)⟩,⟨some 113,none,.call 113 [(.t 110),(.t 112)]⟩,⟨some 114,none,.bin .neq (.t 113) (.c (.int .i64 1))⟩]) (.cond (.t 114) (.seq (.reg [⟨some 2,none,.mov (.c (.int .i64 5))⟩]) .ret) .skip)) (.seq (.reg [⟨some 2,none,.mov (.c (.int .i64 0))⟩]) .ret)))))))))

set_option maxRecDepth 100000 in
theorem tr78 : trFn Tryz.prog Tryz.f78 = some (115, ir78, [.tmp 2]) := by kernel_rfl

theorem spec_l03Bialgebra (h : HT) (a : Nat) (K : Nat → SV) (H : Hp) (n : Nat) (hS : HS h a) (hK : h.At K) (hB : h.By) :
    FnS Tryz.prog 78 [.arr 1106 K] H n (fun r H' _ => r = i64 (firstNot (ax h) 0 5) ∧ H' = H) := by
  have hp := hS.hp
  have ha := hS.ha
  have hk0 := hK.p
  have hk1 := hK.n
  rw [hS.hn] at hk1
  have hk2 := hK.u
  have hk3 := hK.m
  have hk4 := hK.e
  have hk5 := hK.c
  refine FnS.of_body Tryz.func78 tr78 (by simp) (fun hf => ?_)
  dsimp only [argEnv]
  unfold ir78
  (refine zG ?_)
  refine LS.callQ (.arr 522 K) rfl (fun n' hn' => FnS.args (concs_cons (conc_arr (fun q hq => rfl)) rfl) (spec_l03Algebra K h _ _ hK)) ?_
  (repeat first|refine zG ?_|(refine LS.nilO ?_;intro nq hnq hltq;try refine zU ?_)|(refine MS.new ?_;intro bq hbq hbqf;try refine zU ?_)|(refine MS.nil ?_;intro nq hnq hltq;have hlq:=hltq _ _ (Hp.get_eq _ _ _);clear hltq;try refine zU ?_)|(refine LS.nilQ ?_;try with_reducible intro nq hnq;try refine zU ?_))
  refine RS.call rfl ((FnS.args (concs_cons (conc_arr (fun q hq => rfl)) rfl) (spec_l01Is h.p h.n h.u h.m K _ _ hk0 hK.n hk2 hk3 hB.u hB.m)).mono ?_)
  rintro r H n2 hn2 ⟨rfl, rfl⟩
  (refine zG ?_)
  refine zI ?_ ?_<;>intro h1
  · (refine zG ?_)
    exact ⟨_, H, rfl, by exact zD, by rw [firstNot_end (A := ax h) (k := 0) h1]; rfl, rfl⟩
  (refine zG ?_)
  refine RS.call rfl ((FnS.args (concs_cons (conc_arr (fun q hq => rfl)) rfl) (spec_l03Coalgebra K h _ _ hK)).mono ?_)
  rintro r H n3 hn3 ⟨rfl, rfl⟩
  (repeat first|refine zG ?_|(refine LS.nilO ?_;intro nq hnq hltq;try refine zU ?_)|(refine MS.new ?_;intro bq hbq hbqf;try refine zU ?_)|(refine MS.nil ?_;intro nq hnq hltq;have hlq:=hltq _ _ (Hp.get_eq _ _ _);clear hltq;try refine zU ?_)|(refine LS.nilQ ?_;try with_reducible intro nq hnq;try refine zU ?_))
  refine RS.call rfl ((spec_l02Is h.p h.n h.e h.c (coC K) _ _ hk0 hK.n (coC_e hK) (coC_c hK) hB.e hB.c).mono ?_)
  rintro r H n4 hn4 ⟨rfl, rfl⟩
  (refine zG ?_)
  refine zI ?_ ?_<;>intro h2
  · (refine zG ?_)
    exact ⟨_, H, rfl, by exact zD, by rw [firstNot_go (A := ax h) (k := 0) h1, firstNot_end (A := ax h) (k := 1) h2]; rfl, rfl⟩
  (refine zG ?_)
  refine CS.iter a (fun i => [(5, i64 i), (1, ptr n 0), (3, i64 a)]) (fun _ => (n, ⟨1106, K, 38⟩) :: H)
    (fun i => ∀ i' j : Nat, i' < i → j < a → ∀ q, q < 64 → cps h.p h.c (fun x => h.m (64 * i' + 8 * j + x)) 8 q = ten h.p h.m (fun q => h.c (64 * i' + q)) (fun q => h.c (64 * j + q)) q) (by (repeat first | exact trivial | refine And.intro rfl ?_)) (by exact zD) (fun _ _ h => by omega) ?_
  intro i n1 hi hn hJ
  (refine zG ?_)
  refine zI ?_ ?_<;>intro h3
  · (refine zG ?_)
    refine CS.iter a (fun j => [(6, i64 j), (5, i64 i), (1, ptr n 0), (3, i64 a)]) (fun _ => (n, ⟨1106, K, 38⟩) :: H)
      (fun j => ∀ j' : Nat, j' < j → ∀ q, q < 64 → cps h.p h.c (fun x => h.m (64 * i + 8 * j' + x)) 8 q = ten h.p h.m (fun q => h.c (64 * i + q)) (fun q => h.c (64 * j' + q)) q) (by (repeat first | exact trivial | refine And.intro rfl ?_)) (Drops.refl _ _) (fun _ h => by omega) ?_
    intro j n5 hj hn5 hJ2
    (refine zG ?_)
    refine zI ?_ ?_<;>intro h4
    · (refine zG ?_)
      refine LS.callQ (.arr 64 (bys (cps h.p h.c (fun x => h.m (64 * i + 8 * j + x)) 8))) rfl (fun n' hn' => FnS.args (concs_cons (conc_arr (fun q hq => rfl)) rfl) (spec_l03Coproduct h a (fun x => h.m (64 * i + 8 * j + x)) K _ _ hS hK hB (hB.rowm (by omega) (by omega)))) ?_
      (repeat first|refine zG ?_|(refine LS.nilO ?_;intro nq hnq hltq;try refine zU ?_)|(refine MS.new ?_;intro bq hbq hbqf;try refine zU ?_)|(refine MS.nil ?_;intro nq hnq hltq;have hlq:=hltq _ _ (Hp.get_eq _ _ _);clear hltq;try refine zU ?_)|(refine LS.nilQ ?_;try with_reducible intro nq hnq;try refine zU ?_))
      refine RS.call rfl ((FnS.args (concs_cons (conc_arr (fun q hq => rfl)) rfl) (spec_l03Pairs h a (fun q => h.c (64 * i + q)) (fun q => h.c (64 * j + q)) K _ _ hS hK hB (hB.rowc (by omega)) (hB.rowc (by omega)))).mono ?_)
      rintro r H6 n6 hn6 ⟨rfl, rfl⟩
      (refine zG ?_)
      refine zI ?_ ?_<;>intro h5
      · (refine zG ?_)
        exact ⟨_, H, rfl, by exact zD, by rw [firstNot_go (A := ax h) (k := 0) h1, firstNot_go (A := ax h) (k := 1) h2, firstNot_end (A := ax h) (k := 2) (fun q : ax3 h => h5 (q i j (by rw [hS.N]; omega) (by rw [hS.N]; omega)))]; rfl, rfl⟩
      · (refine zG ?_)
        refine ⟨by omega, by (repeat first | exact trivial | refine And.intro rfl ?_), Drops.refl _ _, fun j' hj' => ?_⟩
        by_cases e : j' = j
        · subst e; exact h5
        · exact hJ2 j' (by omega)
    · have : j = a := by omega
      subst this
      (refine zG ?_)
      refine ⟨by omega, by (repeat first | exact trivial | refine And.intro rfl ?_), Drops.refl _ _, fun i' j' hi' => ?_⟩
      by_cases e : i' = i
      · subst e; exact fun hj' => hJ2 j' hj'
      · exact hJ i' j' (by omega)
  have : i = a := by omega
  subst this
  have hA3 : ax h 2 := fun i' j' h1 h2 => by rw [hS.N] at h1 h2; exact hJ i' j' h1 h2
  (refine zG ?_)
  refine RS.call rfl ((FnS.args (concs_cons (conc_arr (fun q hq => rfl)) rfl) (spec_l03Coproduct h i h.u K _ _ hS hK hB hB.u)).mono ?_)
  rintro r H5 n5 hn5 ⟨rfl, rfl⟩
  (refine zG ?_)
  have hrr : ∀ q, q < 64 → (bys (cps h.p h.c h.u 8)) (0 + q) = .int .u8 (cps h.p h.c h.u 8 q) := fun q hq => by rw [Nat.zero_add]; rfl
  refine CS.iter i (fun j => [(8, i64 j), (7, ptr n5 0), (1, ptr n 0), (3, i64 i)]) (fun _ => (n5, ⟨64, bys (cps h.p h.c h.u 8), 34⟩) :: (n, ⟨1106, K, 38⟩) :: H)
    (fun j => ∀ j', j' < j → ∀ q, q < 8 → cps h.p h.c h.u 8 (8 * j' + q) = pl h.p (fun _ => 0) (h.u j') h.u q) (by (repeat first | exact trivial | refine And.intro rfl ?_)) (by exact zD) (fun _ h => by omega) ?_
  intro j n6 hj hn6 hJ4
  (refine zG ?_)
  refine zI ?_ ?_<;>intro h4
  · have huj := hB.u j (by omega)
    have hr : ∀ q, q < 8 → (bys (cps h.p h.c h.u 8)) (8 * j + q) = .int .u8 (cps h.p h.c h.u 8 (8 * j + q)) := fun q hq => rfl
    (refine zG ?_)
    refine LS.callQ (.arr 8 (bys (pl h.p (fun _ => 0) (h.u j) h.u))) rfl (fun n' hn' => spec_l01Add h.p (h.u j) (fun _ => 0) h.u _ _ hp ((isRes_zero hp.1 8).by hp.2) hB.u (by omega)) ?_
    (repeat first|refine zG ?_|(refine LS.nilO ?_;intro nq hnq hltq;try refine zU ?_)|(refine MS.new ?_;intro bq hbq hbqf;try refine zU ?_)|(refine MS.nil ?_;intro nq hnq hltq;have hlq:=hltq _ _ (Hp.get_eq _ _ _);clear hltq;try refine zU ?_)|(refine LS.nilQ ?_;try with_reducible intro nq hnq;try refine zU ?_))
    refine zI ?_ ?_<;>intro h5
    · (refine zG ?_)
      exact ⟨_, H, rfl, by exact zD, by rw [firstNot_go (A := ax h) (k := 0) h1, firstNot_go (A := ax h) (k := 1) h2, firstNot_go (A := ax h) hA3, firstNot_end (A := ax h) (k := 3) (fun q => h5 ((ax4_rows hS).1 q j (by omega)))]; rfl, rfl⟩
    · (refine zG ?_)
      refine ⟨by omega, by (repeat first | exact trivial | refine And.intro rfl ?_), Drops.refl _ _, fun j' hj' => ?_⟩
      by_cases e : j' = j
      · subst e; exact h5
      · exact hJ4 j' (by omega)
  have : j = i := by omega
  subst this
  have hA4 : ax h 3 := (ax4_rows hS).2 hJ4
  (refine zG ?_)
  refine CS.iter j (fun i => [(9, i64 i), (1, ptr n 0), (3, i64 j)]) (fun _ => (n, ⟨1106, K, 38⟩) :: H)
    (fun i => ∀ i' k : Nat, i' < i → k < j → dotk h.p h.e (fun x => h.m (64 * i' + 8 * k + x)) 8 = h.e i' * h.e k % h.p) (by (repeat first | exact trivial | refine And.intro rfl ?_)) (by exact zD) (fun _ _ h => by omega) ?_
  intro i n7 hi hn7 hJ5
  (refine zG ?_)
  refine zI ?_ ?_<;>intro h6
  · (refine zG ?_)
    refine CS.iter j (fun k => [(10, i64 k), (9, i64 i), (1, ptr n 0), (3, i64 j)]) (fun _ => (n, ⟨1106, K, 38⟩) :: H)
      (fun k => ∀ k' : Nat, k' < k → dotk h.p h.e (fun x => h.m (64 * i + 8 * k' + x)) 8 = h.e i * h.e k' % h.p) (by (repeat first | exact trivial | refine And.intro rfl ?_)) (by exact zD) (fun _ h => by omega) ?_
    intro k n8 hk hn8 hJ6
    (refine zG ?_)
    refine zI ?_ ?_<;>intro h7
    · have hei := hB.e i (by omega)
      have hej := hB.e k (by omega)
      have hee := mulB hei.1 hei.2 hej.1 hej.2
      (refine zG ?_)
      refine LS.callQ (i64 (dotk h.p h.e (fun x => h.m (64 * i + 8 * k + x)) 8)) rfl (fun n' hn' => FnS.args (concs_cons (conc_arr (fun q hq => rfl)) rfl) (spec_l03Counit h j (fun x => h.m (64 * i + 8 * k + x)) K _ _ hS hK hB (hB.rowm (by omega) (by omega)))) ?_
      (repeat first|refine zG ?_|(refine LS.nilO ?_;intro nq hnq hltq;try refine zU ?_)|(refine MS.new ?_;intro bq hbq hbqf;try refine zU ?_)|(refine MS.nil ?_;intro nq hnq hltq;have hlq:=hltq _ _ (Hp.get_eq _ _ _);clear hltq;try refine zU ?_)|(refine LS.nilQ ?_;try with_reducible intro nq hnq;try refine zU ?_))
      refine zI ?_ ?_<;>intro h8
      · (refine zG ?_)
        exact ⟨_, H, rfl, by exact zD, by rw [firstNot_go (A := ax h) (k := 0) h1, firstNot_go (A := ax h) (k := 1) h2, firstNot_go (A := ax h) hA3, firstNot_go (A := ax h) hA4, firstNot_end (A := ax h) (k := 4) (fun q : ax5 h => h8 (q.1 i k (by rw [hS.N]; omega) (by rw [hS.N]; omega)))]; rfl, rfl⟩
      · (refine zG ?_)
        refine ⟨by omega, by (repeat first | exact trivial | refine And.intro rfl ?_), Drops.refl _ _, fun j' hj' => ?_⟩
        by_cases e : j' = k
        · subst e; exact h8
        · exact hJ6 j' (by omega)
    · have : k = j := by omega
      subst this
      (refine zG ?_)
      refine ⟨by omega, by (repeat first | exact trivial | refine And.intro rfl ?_), Drops.refl _ _, fun i' j' hi' => ?_⟩
      by_cases e : i' = i
      · subst e; exact fun hj' => hJ6 j' hj'
      · exact hJ5 i' j' (by omega)
  have : i = j := by omega
  subst this
  (refine zG ?_)
  refine RS.call rfl ((FnS.args (concs_cons (conc_arr (fun q hq => rfl)) rfl) (spec_l03Counit h i h.u K _ _ hS hK hB hB.u)).mono ?_)
  rintro r H7 n8 hn8 ⟨rfl, rfl⟩
  (refine zG ?_)
  refine zI ?_ ?_<;>intro h9
  · (refine zG ?_)
    exact ⟨_, H, rfl, by exact zD, by rw [firstNot_go (A := ax h) (k := 0) h1, firstNot_go (A := ax h) (k := 1) h2, firstNot_go (A := ax h) hA3, firstNot_go (A := ax h) hA4, firstNot_end (A := ax h) (k := 4) (fun q : ax5 h => h9 q.2)]; rfl, rfl⟩
  · have hA5 : ax h 4 := show ax5 h from ⟨fun i' j' h1 h2 => by rw [hS.N] at h1 h2; exact hJ5 i' j' h1 h2, h9⟩
    (refine zG ?_)
    exact ⟨_, H, rfl, by exact zD, by rw [firstNot_go (A := ax h) (k := 0) h1, firstNot_go (A := ax h) (k := 1) h2, firstNot_go (A := ax h) hA3, firstNot_go (A := ax h) hA4, firstNot_go (A := ax h) hA5]; rfl, rfl⟩

/-- spec.l03Fails -/
def ir57 : Cd := (.seq (.reg [⟨some 1,none,.box 38 (.t 0)⟩,⟨some 2,none,.mov (.c (.int .i64 0))⟩]) (.seq (.reg [⟨some 4,none,.ld (some 1106) (.t 1)⟩,⟨some 5,none,.call 78 [(.t 4)]⟩,⟨some 3,none,.mov (.t 5)⟩]) (.seq (.block 0 (.seq (.reg [⟨some 7,none,.mov (.t 3)⟩,⟨some 8,none,.bin .neq (.t 7) (.c (.int .i64 0))⟩,⟨some 6,none,.mov (.t 8)⟩]) (.cond (.t 6) (.seq (.reg [⟨some 9,none,.mov (.t 3)⟩,⟨some 2,none,.mov (.t 9)⟩]) .ret) (.seq (.reg [⟨some 11,none,.ld (some 1106) (.t 1)⟩,⟨some 12,none,.fa 1042 (.t 1)⟩,⟨some 13,none,.ld (some 64) (.t 12)⟩,⟨some 14,none,.call 79 [(.t 11),(.t 13),(.c (.bool false))]⟩,⟨some 15,none,.un .not (.t 14)⟩,⟨some 10,none,.mov (.t 15)⟩]) (.cond (.t 10) (.seq (.reg [⟨some 2,none,.mov (.c (.int .i64 6))⟩]) .ret) (.seq (.reg [⟨some 17,none,.ld (some 1106) (.t 1)⟩,⟨some 18,none,.fa 1042 (.t 1)⟩,⟨some 19,none,.ld (some 64) (.t 18)⟩,⟨some 20,none,.call 79 [(.t 17),(.t 19),(.c (.bool true))]⟩,⟨some 21,none,.un .not (.t 20)⟩,⟨some 16,none,.mov (.t 21)⟩]) (.cond (.t 16) (.seq (.reg [⟨some 2,none,.mov (.c (.int .i64 7))⟩]) .ret) .skip))))))) (.seq (.reg [⟨some 2,none,.mov (.c (.int .i64 0))⟩]) .ret))))

set_option maxRecDepth 100000 in
theorem tr57 : trFn Tryz.prog Tryz.f57 = some (22, ir57, [.tmp 2]) := by kernel_rfl

theorem spec_l03Fails (h : HT) (a : Nat) (K : Nat → SV) (H : Hp) (n : Nat) (hS : HS h a) (hK : h.At K) (hB : h.By) :
    FnS Tryz.prog 57 [.arr 1106 K] H n (fun r H' _ => r = i64 (firstNot (ax h) 0 7) ∧ H' = H) := by
  have e7 := firstNot_split (ax h) 2 5 0
  have hk6 := hK.s
  refine FnS.of_body Tryz.func57 tr57 (by simp) (fun hf => ?_)
  dsimp only [argEnv]
  unfold ir57
  (refine zG ?_)
  refine RS.call rfl ((FnS.args (concs_cons (conc_arr (fun q hq => rfl)) rfl) (spec_l03Bialgebra h a K _ _ hS hK hB)).mono ?_)
  rintro r H n2 hn2 ⟨rfl, rfl⟩
  (refine zG ?_)
  refine zI ?_ ?_<;>intro h1
  · (refine zG ?_)
    exact ⟨_, H, rfl, by exact zD, by rw [e7, if_neg h1], rfl⟩
  (refine zG ?_)
  refine RS.call rfl ((FnS.args (concs_cons (conc_arr (fun q hq => rfl)) rfl) (spec_l03Antipode h a false (g6 h.p h.m h.s a) rfl K _ _ hS hK hB)).mono ?_)
  rintro r H n3 hn3 ⟨rfl, rfl⟩
  (refine zG ?_)
  refine zI ?_ ?_<;>intro h2
  · (refine zG ?_)
    exact ⟨_, H, rfl, by exact zD, by rw [e7, if_pos h1, firstNot_end (A := ax h) (fun q => h2 ((ax_fold6 hS).1 q))]; rfl, rfl⟩
  (refine zG ?_)
  refine RS.call rfl ((FnS.args (concs_cons (conc_arr (fun q hq => rfl)) rfl) (spec_l03Antipode h a true (g7 h.p h.m h.s a) rfl K _ _ hS hK hB)).mono ?_)
  rintro r H n4 hn4 ⟨rfl, rfl⟩
  (refine zG ?_)
  refine zI ?_ ?_<;>intro h3
  · (refine zG ?_)
    exact ⟨_, H, rfl, by exact zD, by rw [e7, if_pos h1, firstNot_go (A := ax h) ((ax_fold6 hS).2 h2), firstNot_end (A := ax h) (fun q => h3 ((ax_fold7 hS).1 q))]; rfl, rfl⟩
  · (refine zG ?_)
    exact ⟨_, H, rfl, by exact zD, by rw [e7, if_pos h1, firstNot_go (A := ax h) ((ax_fold6 hS).2 h2), firstNot_go (A := ax h) ((ax_fold7 hS).2 h3)]; rfl, rfl⟩

/-- spec.l03Is -/
def ir35 : Cd := (.seq (.reg [⟨some 1,none,.box 38 (.t 0)⟩,⟨some 2,none,.mov (.c (.bool false))⟩]) (.seq (.reg [⟨some 3,none,.ld (some 1106) (.t 1)⟩,⟨some 4,none,.call 56 [(.t 3)]⟩,⟨some 5,none,.mov (.t 4)⟩,⟨some 6,(some (5,true)),.ld (some 1106) (.t 1)⟩,⟨some 7,(some (5,true)),.call 57 [(.t 6)]⟩,⟨some 8,(some (5,true)),.bin .eql (.t 7) (.c (.int .i64 0))⟩,⟨some 9,none,.pick (.t 5) (.t 8) (.c (.bool false))⟩,⟨some 2,none,.mov (.t 9)⟩]) .ret))

set_option maxRecDepth 100000 in
theorem tr35 : trFn Tryz.prog Tryz.f35 = some (10, ir35, [.tmp 2]) := by kernel_rfl

theorem spec_l03Is (h : HT) (K : Nat → SV) (H : Hp) (n : Nat) (hK : h.At K) (hB : h.By) :
    FnS Tryz.prog 35 [.arr 1106 K] H n (fun r H' _ => r = bl (tb (isHopf h)) ∧ H' = H) := by
  refine FnS.of_body Tryz.func35 tr35 (by simp) (fun hf => ?_)
  dsimp only [argEnv]
  unfold ir35
  (refine zG ?_)
  refine RS.call rfl ((FnS.args (concs_cons (conc_arr (fun q hq => rfl)) rfl) (spec_l03Shape h K _ _ hK hB)).mono ?_)
  rintro r H n2 hn2 ⟨rfl, rfl⟩
  (refine zG ?_)
  refine RS.sp (t := 5) rfl (fun h1 => ?_) (fun h1 => ?_) <;> (try simp only [tb_eq, tb_eqF, decide_eq_true_eq, decide_eq_false_iff_not, beq_iff_eq, bne_iff_ne, ne_eq, Decidable.not_not, beq_eq_false_iff_ne, bne_eq_false_iff_eq, Bool.not_eq_true', Bool.not_eq_false', Bool.not_eq_eq_eq_not, Bool.not_true, Bool.not_false] at h1)
  · obtain ⟨a, hS⟩ := h1.hs
    (refine zG ?_)
    refine RS.call rfl ((FnS.args (concs_cons (conc_arr (fun q hq => rfl)) rfl) (spec_l03Fails h a K _ _ hS hK hB)).mono ?_)
    rintro r H n3 hn3 ⟨rfl, rfl⟩
    (refine zG ?_)
    exact ⟨_, H, rfl, by exact zD, by rw [tb_iff (R := firstNot (ax h) 0 7 = 0) ⟨fun q => q.2, fun q => ⟨h1, q⟩⟩, tb_dec]; rfl, rfl⟩
  · (refine zG ?_)
    exact ⟨_, H, rfl, by exact zD, by rw [tb_false (fun q => h1 q.1)], rfl⟩

end Go.Proofs.YtideblodkkgodaaGreat
