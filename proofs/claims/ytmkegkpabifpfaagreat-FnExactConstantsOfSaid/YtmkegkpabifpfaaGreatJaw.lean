/- Contracts of the program's functions. -/
import Derived.Test.YtmkegkpabifpfaaGreatJam
import Derived.Test.YtmkegkpabifpfaaGreatJal
import Derived.Test.YtmkegkpabifpfaaGreatJau
import Derived.Test.YtmkegkpabifpfaaGreatJav
namespace Go.Proofs.YtmkegkpabifpfaaGreat
open Go.V
set_option linter.unusedSimpArgs false
set_option linter.unusedVariables false
set_option maxHeartbeats 4000000
/-- spec.l03Bialgebra -/
def ir63 : Cd := (.seq (.reg [⟨some 1,none,.box 40 (.t 0)⟩,⟨some 2,none,.mov (.c (.int .i64 0))⟩]) (.seq (.mix [⟨some 11,none,.fa 1 (.t 1)⟩,⟨some 12,none,.ld none (.t 11)⟩,⟨some 13,none,.ld (some 1106) (.t 1)⟩,⟨some 14,none,.call 60 [(.t 13)]⟩] [⟨some 4,none,.new 43 [(2,(.int .i64 0)),(520,(.int .u8 0))]⟩,⟨some 3,none,.mov (.t 12)⟩,⟨none,none,.st 522 (.t 4) (.t 14)⟩]) (.seq (.block 0 (.seq (.reg [⟨some 16,none,.ld (some 522) (.t 4)⟩,⟨some 17,none,.call 23 [(.t 16)]⟩,⟨some 18,none,.un .not (.t 17)⟩,⟨some 15,none,.mov (.t 18)⟩]) (.cond (.t 15) (.seq (.reg [⟨some 2,none,.mov (.c (.int .i64 1))⟩]) .ret) (.seq (.reg [⟨some 20,none,.ld (some 1106) (.t 1)⟩,⟨some 21,none,.call 81 [(.t 20)]⟩,⟨some 22,none,.call 80 [(.t 21)]⟩,⟨some 23,none,.un .not (.t 22)⟩,⟨some 19,none,.mov (.t 23)⟩]) (.cond (.t 19) (.seq (.reg [⟨some 2,none,.mov (.c (.int .i64 2))⟩]) .ret) .skip))))) (.seq (.seq (.reg [⟨some 5,none,.mov (.c (.int .i64 0))⟩]) (.block 1 (.loop (.seq (.seq (.reg [⟨some 24,none,.mov (.t 5)⟩,⟨some 25,none,.mov (.t 3)⟩,⟨some 26,none,.bin .lss (.t 24) (.t 25)⟩]) (.cond (.t 26) .skip (.exit 1))) (.seq (.block 2 (.seq (.reg [⟨some 6,none,.mov (.c (.int .i64 0))⟩]) (.block 3 (.loop (.seq (.seq (.reg [⟨some 29,none,.mov (.t 6)⟩,⟨some 30,none,.mov (.t 3)⟩,⟨some 31,none,.bin .lss (.t 29) (.t 30)⟩]) (.cond (.t 31) .skip (.exit 3))) (.seq (.block 4 (.seq (.drw true [17] [⟨some 34,none,.ld (some 1106) (.t 1)⟩,⟨some 35,none,.mov (.t 5)⟩,⟨some 36,none,.mov (.t 6)⟩,⟨some 37,none,.fa 10 (.t 1)⟩,⟨some 38,none,.ia 8 64 (.t 37) (.t 35)⟩,⟨some 39,none,.ia 8 8 (.t 38) (.t 36)⟩,⟨some 40,none,.ld (some 8) (.t 39)⟩,⟨some 41,none,.call 82 [(.t 34),(.t 40)]⟩,⟨some 42,none,.ld (some 1106) (.t 1)⟩,⟨some 43,none,.mov (.t 5)⟩,⟨some 44,none,.fa 530 (.t 1)⟩,⟨some 45,none,.ia 8 64 (.t 44) (.t 43)⟩,⟨some 46,none,.ld (some 64) (.t 45)⟩,⟨some 47,none,.mov (.t 6)⟩,⟨some 48,none,.fa 530 (.t 1)⟩,⟨some 49,none,.ia 8 64 (.t 48) (.t 47)⟩,⟨some 50,none,.ld (some 64) (.t 49)⟩,⟨some 51,none,.call 83 [(.t 42),(.t 46),(.t 50)]⟩,⟨some 52,none,.eqa true 64 (.t 41) (.t 51)⟩]) (.cond (.t 52) (.seq (.reg [⟨some 2,none,.mov (.c (.int .i64 3))⟩]) .ret) .skip))) (.reg [⟨some 32,none,.mov (.t 6)⟩,⟨some 33,none,.bin .add (.t 32) (.c (.int .i64 1))⟩,⟨some 6,none,.mov (.t 33)⟩]))))))) (.reg [⟨some 27,none,.mov (.t 5)⟩,⟨some 28,none,.bin .add (.t 27) (.c (.int .i64 1))⟩,⟨some 5,none,.mov (.t 28)⟩])))))) (.seq (.reg [⟨some 53,none,.ld (some 1106) (.t 1)⟩,⟨some 54,none,.fa 2 (.t 1)⟩,⟨some 55,none,.ld (some 8) (.t 54)⟩,⟨some 56,none,.call 82 [(.t 53),(.t 55)]⟩,⟨some 7,none,.new 36 [(64,(.int .u8 0))]⟩,⟨none,none,.st 64 (.t 7) (.t 56)⟩]) (.seq (.seq (.reg [⟨some 8,none,.mov (.c (.int .i64 0))⟩]) (.block 5 (.loop (.seq (.seq (.reg [⟨some 57,none,.mov (.t 8)⟩,⟨some 58,none,.mov (.t 3)⟩,⟨some 59,none,.bin .lss (.t 57) (.t 58)⟩]) (.cond (.t 59) .skip (.exit 5))) (.seq (.block 6 (.seq (.drw true [] [⟨some 62,none,.mov (.t 8)⟩,⟨some 63,none,.ia 8 8 (.t 7) (.t 62)⟩,⟨some 64,none,.ld (some 8) (.t 63)⟩,⟨some 65,none,.fa 0 (.t 1)⟩,⟨some 66,none,.ld none (.t 65)⟩,⟨some 67,none,.build 8 [(8,(.int .u8 0))] []⟩,⟨some 68,none,.fa 2 (.t 1)⟩,⟨some 69,none,.ld (some 8) (.t 68)⟩,⟨some 70,none,.mov (.t 8)⟩,⟨some 71,none,.fa 2 (.t 1)⟩,⟨some 72,none,.ia 8 1 (.t 71) (.t 70)⟩,⟨some 73,none,.ld none (.t 72)⟩,⟨some 74,none,.cv .i64 (.t 73)⟩,⟨some 75,none,.call 26 [(.t 66),(.t 67),(.t 69),(.t 74)]⟩,⟨some 76,none,.eqa true 8 (.t 64) (.t 75)⟩]) (.cond (.t 76) (.seq (.reg [⟨some 2,none,.mov (.c (.int .i64 4))⟩]) .ret) .skip))) (.reg [⟨some 60,none,.mov (.t 8)⟩,⟨some 61,none,.bin .add (.t 60) (.c (.int .i64 1))⟩,⟨some 8,none,.mov (.t 61)⟩])))))) (.seq (.seq (.reg [⟨some 9,none,.mov (.c (.int .i64 0))⟩]) (.block 7 (.loop (.seq (.seq (.reg [⟨some 77,none,.mov (.t 9)⟩,⟨some 78,none,.mov (.t 3)⟩,⟨some 79,none,.bin .lss (.t 77) (.t 78)⟩]) (.cond (.t 79) .skip (.exit 7))) (.seq (.block 8 (.seq (.reg [⟨some 10,none,.mov (.c (.int .i64 0))⟩]) (.block 9 (.loop (.seq (.seq (.reg [⟨some 82,none,.mov (.t 10)⟩,⟨some 83,none,.mov (.t 3)⟩,⟨some 84,none,.bin .lss (.t 82) (.t 83)⟩]) (.cond (.t 84) .skip (.exit 9))) (.seq (.block 10 (.seq (.drw true [] [⟨some 87,none,.ld (some 1106) (.t 1)⟩,⟨some 88,none,.mov (.t 9)⟩,⟨some 89,none,.mov (.t 10)⟩,⟨some 90,none,.fa 10 (.t 1)⟩,⟨some 91,none,.ia 8 64 (.t 90) (.t 88)⟩,⟨some 92,none,.ia 8 8 (.t 91) (.t 89)⟩,⟨some 93,none,.ld (some 8) (.t 92)⟩,⟨some 94,none,.call 84 [(.t 87),(.t 93)]⟩,⟨some 95,none,.mov (.t 9)⟩,⟨some 96,none,.fa 522 (.t 1)⟩,⟨some 97,none,.ia 8 1 (.t 96) (.t 95)⟩,⟨some 98,none,.ld none (.t 97)⟩,⟨some 99,none,.cv .i64 (.t 98)⟩,⟨some 100,none,.mov (.t 10)⟩,⟨some 101,none,.fa 522 (.t 1)⟩,⟨some 102,none,.ia 8 1 (.t 101) (.t 100)⟩,⟨some 103,none,.ld none (.t 102)⟩,⟨some 104,none,.cv .i64 (.t 103)⟩,⟨some 105,none,.bin .mul (.t 99) (.t 104)⟩,⟨some 106,none,.fa 0 (.t 1)⟩,⟨some 107,none,.ld none (.t 106)⟩,⟨some 108,none,.bin .rem (.t 105) (.t 107)⟩,⟨some 109,none,.bin .neq (.t 94) (.t 108)⟩]) (.cond (.t 109) (.seq (.reg [⟨some 2,none,.mov (.c (.int .i64 5))⟩]) .ret) .skip))) (.reg [⟨some 85,none,.mov (.t 10)⟩,⟨some 86,none,.bin .add (.t 85) (.c (.int .i64 1))⟩,⟨some 10,none,.mov (.t 86)⟩]))))))) (.reg [⟨some 80,none,.mov (.t 9)⟩,⟨some 81,none,.bin .add (.t 80) (.c (.int .i64 1))⟩,⟨some 9,none,.mov (.t 81)⟩])))))) (.seq (.seq (.reg [⟨some 110,none,.ld (some 1106) (.t 1)⟩,⟨some 111,none,.fa 2 (.t 1)⟩,⟨some 112,none,.ld (some 8) (.t 111)⟩,⟨some 113,none,.call 84 [(.t 110),(.t 112)]⟩,⟨some 114,none,.bin .neq (.t 113) (.c (.int .i64 1))⟩]) (.cond (.t 114) (.seq (.reg [⟨some 2,none,.mov (.c (.int .i64 5))⟩]) .ret) .skip)) (.seq (.reg [⟨some 2,none,.mov (.c (.int .i64 0))⟩]) .ret)))))))))
set_option maxRecDepth 100000 in
theorem tr63 : trFn Tryz.prog Tryz.f63 = some (115, ir63, [.tmp 2]) := by kernel_rfl
theorem spec_l03Bialgebra (h : HT) (a : Nat) (K : Nat → SV) (H : Hp) (n : Nat) (hS : HS h a) (hK : h.At K) (hB : h.By) :
    FnS Tryz.prog 63 [.arr 1106 K] H n (fun r H' _ => r = i64 (firstNot (ax h) 0 5) ∧ H' = H) := by
  have hp := hS.hp
  have ha := hS.ha
  have hk0 := hK.p
  have hk1 := hK.n
  rw [hS.hn] at hk1
  have hk2 := hK.u
  have hk3 := hK.m
  have hk4 := hK.e
  have hk5 := hK.c
  refine FnS.of_body Tryz.func63 tr63 (by simp) (fun hf => ?_)
  dsimp only [argEnv]
  unfold ir63
  (refine zG ?_)
  refine LS.callQ (.arr 522 K) rfl (fun n' hn' => FnS.args (concs_cons (conc_arr (fun q hq => rfl)) rfl) (spec_l03Algebra K h _ _ hK)) ?_
  (repeat first|refine zG ?_|(refine LS.nilO ?_;intro nq hnq hltq;try refine zU ?_)|(refine MS.new ?_;intro bq hbq hbqf;try refine zU ?_)|(refine MS.nil ?_;intro nq hnq hltq;have hlq:=hltq _ _ (Hp.get_eq _ _ _);clear hltq;try refine zU ?_)|(refine LS.nilQ ?_;try with_reducible intro nq hnq;try refine zU ?_))
  refine RS.call rfl ((FnS.args (concs_cons (conc_arr (fun q hq => rfl)) rfl) (spec_l01Is h.p h.n h.u h.m K _ _ hk0 hK.n hk2 hk3 hB.u hB.m)).mono ?_)
  rintro r H n2 hn2 ⟨rfl, rfl⟩
  (refine zG ?_)
  refine zI ?_ ?_<;>intro h1
  · (refine zG ?_)
    exact ⟨_, H, rfl, by exact zD, by rw [firstNot_end (A := ax h) (k := 0) h1]; rfl, rfl⟩
  (refine zG ?_)
  refine RS.call rfl ((FnS.args (concs_cons (conc_arr (fun q hq => rfl)) rfl) (spec_l03Coalgebra K h _ _ hK)).mono ?_)
  rintro r H n3 hn3 ⟨rfl, rfl⟩
  (repeat first|refine zG ?_|(refine LS.nilO ?_;intro nq hnq hltq;try refine zU ?_)|(refine MS.new ?_;intro bq hbq hbqf;try refine zU ?_)|(refine MS.nil ?_;intro nq hnq hltq;have hlq:=hltq _ _ (Hp.get_eq _ _ _);clear hltq;try refine zU ?_)|(refine LS.nilQ ?_;try with_reducible intro nq hnq;try refine zU ?_))
  refine RS.call rfl ((spec_l02Is h.p h.n h.e h.c (coC K) _ _ hk0 hK.n (coC_e hK) (coC_c hK) hB.e hB.c).mono ?_)
  rintro r H n4 hn4 ⟨rfl, rfl⟩
  (refine zG ?_)
  refine zI ?_ ?_<;>intro h2
  · (refine zG ?_)
    exact ⟨_, H, rfl, by exact zD, by rw [firstNot_go (A := ax h) (k := 0) h1, firstNot_end (A := ax h) (k := 1) h2]; rfl, rfl⟩
  (refine zG ?_)
  refine CS.iter a (fun i => [(5, i64 i), (1, ptr n 0), (3, i64 a)]) (fun _ => (n, ⟨1106, K, 40⟩) :: H)
    (fun i => ∀ i' j : Nat, i' < i → j < a → ∀ q, q < 64 → cps h.p h.c (fun x => h.m (64 * i' + 8 * j + x)) 8 q = ten h.p h.m (fun q => h.c (64 * i' + q)) (fun q => h.c (64 * j + q)) q) (by (repeat first | exact trivial | refine And.intro rfl ?_)) (by exact zD) (fun _ _ h => by omega) ?_
  intro i n1 hi hn hJ
  (refine zG ?_)
  refine zI ?_ ?_<;>intro h3
  · (refine zG ?_)
    refine CS.iter a (fun j => [(6, i64 j), (5, i64 i), (1, ptr n 0), (3, i64 a)]) (fun _ => (n, ⟨1106, K, 40⟩) :: H)
      (fun j => ∀ j' : Nat, j' < j → ∀ q, q < 64 → cps h.p h.c (fun x => h.m (64 * i + 8 * j' + x)) 8 q = ten h.p h.m (fun q => h.c (64 * i + q)) (fun q => h.c (64 * j' + q)) q) (by (repeat first | exact trivial | refine And.intro rfl ?_)) (Drops.refl _ _) (fun _ h => by omega) ?_
    intro j n5 hj hn5 hJ2
    (refine zG ?_)
    refine zI ?_ ?_<;>intro h4
    · (refine zG ?_)
      refine LS.callQ (.arr 64 (bys (cps h.p h.c (fun x => h.m (64 * i + 8 * j + x)) 8))) rfl (fun n' hn' => FnS.args (concs_cons (conc_arr (fun q hq => rfl)) rfl) (spec_l03Coproduct h a (fun x => h.m (64 * i + 8 * j + x)) K _ _ hS hK hB (hB.rowm (by omega) (by omega)))) ?_
      (repeat first|refine zG ?_|(refine LS.nilO ?_;intro nq hnq hltq;try refine zU ?_)|(refine MS.new ?_;intro bq hbq hbqf;try refine zU ?_)|(refine MS.nil ?_;intro nq hnq hltq;have hlq:=hltq _ _ (Hp.get_eq _ _ _);clear hltq;try refine zU ?_)|(refine LS.nilQ ?_;try with_reducible intro nq hnq;try refine zU ?_))
      refine RS.call rfl ((FnS.args (concs_cons (conc_arr (fun q hq => rfl)) rfl) (spec_l03Pairs h a (fun q => h.c (64 * i + q)) (fun q => h.c (64 * j + q)) K _ _ hS hK hB (hB.rowc (by omega)) (hB.rowc (by omega)))).mono ?_)
      rintro r H6 n6 hn6 ⟨rfl, rfl⟩
      (refine zG ?_)
      refine zI ?_ ?_<;>intro h5
      · (refine zG ?_)
        exact ⟨_, H, rfl, by exact zD, by rw [firstNot_go (A := ax h) (k := 0) h1, firstNot_go (A := ax h) (k := 1) h2, firstNot_end (A := ax h) (k := 2) (fun q : ax3 h => h5 (q i j (by rw [hS.N]; omega) (by rw [hS.N]; omega)))]; rfl, rfl⟩
      · (refine zG ?_)
        refine ⟨by omega, by (repeat first | exact trivial | refine And.intro rfl ?_), Drops.refl _ _, fun j' hj' => ?_⟩
        by_cases e : j' = j
        · subst e; exact h5
        · exact hJ2 j' (by omega)
    · have : j = a := by omega
      subst this
      (refine zG ?_)
      refine ⟨by omega, by (repeat first | exact trivial | refine And.intro rfl ?_), Drops.refl _ _, fun i' j' hi' => ?_⟩
      by_cases e : i' = i
      · subst e; exact fun hj' => hJ2 j' hj'
      · exact hJ i' j' (by omega)
  have : i = a := by omega
  subst this
  have hA3 : ax h 2 := fun i' j' h1 h2 => by rw [hS.N] at h1 h2; exact hJ i' j' h1 h2
  (refine zG ?_)
  refine RS.call rfl ((FnS.args (concs_cons (conc_arr (fun q hq => rfl)) rfl) (spec_l03Coproduct h i h.u K _ _ hS hK hB hB.u)).mono ?_)
  rintro r H5 n5 hn5 ⟨rfl, rfl⟩
  (refine zG ?_)
  have hrr : ∀ q, q < 64 → (bys (cps h.p h.c h.u 8)) (0 + q) = .int .u8 (cps h.p h.c h.u 8 q) := fun q hq => by rw [Nat.zero_add]; rfl
  refine CS.iter i (fun j => [(8, i64 j), (7, ptr n5 0), (1, ptr n 0), (3, i64 i)]) (fun _ => (n5, ⟨64, bys (cps h.p h.c h.u 8), 36⟩) :: (n, ⟨1106, K, 40⟩) :: H)
    (fun j => ∀ j', j' < j → ∀ q, q < 8 → cps h.p h.c h.u 8 (8 * j' + q) = pl h.p (fun _ => 0) (h.u j') h.u q) (by (repeat first | exact trivial | refine And.intro rfl ?_)) (by exact zD) (fun _ h => by omega) ?_
  intro j n6 hj hn6 hJ4
  (refine zG ?_)
  refine zI ?_ ?_<;>intro h4
  · have huj := hB.u j (by omega)
    have hr : ∀ q, q < 8 → (bys (cps h.p h.c h.u 8)) (8 * j + q) = .int .u8 (cps h.p h.c h.u 8 (8 * j + q)) := fun q hq => rfl
    (refine zG ?_)
    refine LS.callQ (.arr 8 (bys (pl h.p (fun _ => 0) (h.u j) h.u))) rfl (fun n' hn' => spec_l01Add h.p (h.u j) (fun _ => 0) h.u _ _ hp ((isRes_zero hp.1 8).by hp.2) hB.u (by omega)) ?_
    (repeat first|refine zG ?_|(refine LS.nilO ?_;intro nq hnq hltq;try refine zU ?_)|(refine MS.new ?_;intro bq hbq hbqf;try refine zU ?_)|(refine MS.nil ?_;intro nq hnq hltq;have hlq:=hltq _ _ (Hp.get_eq _ _ _);clear hltq;try refine zU ?_)|(refine LS.nilQ ?_;try with_reducible intro nq hnq;try refine zU ?_))
    refine zI ?_ ?_<;>intro h5
    · (refine zG ?_)
      exact ⟨_, H, rfl, by exact zD, by rw [firstNot_go (A := ax h) (k := 0) h1, firstNot_go (A := ax h) (k := 1) h2, firstNot_go (A := ax h) hA3, firstNot_end (A := ax h) (k := 3) (fun q => h5 ((ax4_rows hS).1 q j (by omega)))]; rfl, rfl⟩
    · (refine zG ?_)
      refine ⟨by omega, by (repeat first | exact trivial | refine And.intro rfl ?_), Drops.refl _ _, fun j' hj' => ?_⟩
      by_cases e : j' = j
      · subst e; exact h5
      · exact hJ4 j' (by omega)
  have : j = i := by omega
  subst this
  have hA4 : ax h 3 := (ax4_rows hS).2 hJ4
  (refine zG ?_)
  refine CS.iter j (fun i => [(9, i64 i), (1, ptr n 0), (3, i64 j)]) (fun _ => (n, ⟨1106, K, 40⟩) :: H)
    (fun i => ∀ i' k : Nat, i' < i → k < j → dotk h.p h.e (fun x => h.m (64 * i' + 8 * k + x)) 8 = h.e i' * h.e k % h.p) (by (repeat first | exact trivial | refine And.intro rfl ?_)) (by exact zD) (fun _ _ h => by omega) ?_
  intro i n7 hi hn7 hJ5
  (refine zG ?_)
  refine zI ?_ ?_<;>intro h6
  · (refine zG ?_)
    refine CS.iter j (fun k => [(10, i64 k), (9, i64 i), (1, ptr n 0), (3, i64 j)]) (fun _ => (n, ⟨1106, K, 40⟩) :: H)
      (fun k => ∀ k' : Nat, k' < k → dotk h.p h.e (fun x => h.m (64 * i + 8 * k' + x)) 8 = h.e i * h.e k' % h.p) (by (repeat first | exact trivial | refine And.intro rfl ?_)) (by exact zD) (fun _ h => by omega) ?_
    intro k n8 hk hn8 hJ6
    (refine zG ?_)
    refine zI ?_ ?_<;>intro h7
    · have hei := hB.e i (by omega)
      have hej := hB.e k (by omega)
      have hee := mulB hei.1 hei.2 hej.1 hej.2
      (refine zG ?_)
      refine LS.callQ (i64 (dotk h.p h.e (fun x => h.m (64 * i + 8 * k + x)) 8)) rfl (fun n' hn' => FnS.args (concs_cons (conc_arr (fun q hq => rfl)) rfl) (spec_l03Counit h j (fun x => h.m (64 * i + 8 * k + x)) K _ _ hS hK hB (hB.rowm (by omega) (by omega)))) ?_
      (repeat first|refine zG ?_|(refine LS.nilO ?_;intro nq hnq hltq;try refine zU ?_)|(refine MS.new ?_;intro bq hbq hbqf;try refine zU ?_)|(refine MS.nil ?_;intro nq hnq hltq;have hlq:=hltq _ _ (Hp.get_eq _ _ _);clear hltq;try refine zU ?_)|(refine LS.nilQ ?_;try with_reducible intro nq hnq;try refine zU ?_))
      refine zI ?_ ?_<;>intro h8
      · (refine zG ?_)
        exact ⟨_, H, rfl, by exact zD, by rw [firstNot_go (A := ax h) (k := 0) h1, firstNot_go (A := ax h) (k := 1) h2, firstNot_go (A := ax h) hA3, firstNot_go (A := ax h) hA4, firstNot_end (A := ax h) (k := 4) (fun q : ax5 h => h8 (q.1 i k (by rw [hS.N]; omega) (by rw [hS.N]; omega)))]; rfl, rfl⟩
      · (refine zG ?_)
        refine ⟨by omega, by (repeat first | exact trivial | refine And.intro rfl ?_), Drops.refl _ _, fun j' hj' => ?_⟩
        by_cases e : j' = k
        · subst e; exact h8
        · exact hJ6 j' (by omega)
    · have : k = j := by omega
      subst this
      (refine zG ?_)
      refine ⟨by omega, by (repeat first | exact trivial | refine And.intro rfl ?_), Drops.refl _ _, fun i' j' hi' => ?_⟩
      by_cases e : i' = i
      · subst e; exact fun hj' => hJ6 j' hj'
      · exact hJ5 i' j' (by omega)
  have : i = j := by omega
  subst this
  (refine zG ?_)
  refine RS.call rfl ((FnS.args (concs_cons (conc_arr (fun q hq => rfl)) rfl) (spec_l03Counit h i h.u K _ _ hS hK hB hB.u)).mono ?_)
  rintro r H7 n8 hn8 ⟨rfl, rfl⟩
  (refine zG ?_)
  refine zI ?_ ?_<;>intro h9
  · (refine zG ?_)
    exact ⟨_, H, rfl, by exact zD, by rw [firstNot_go (A := ax h) (k := 0) h1, firstNot_go (A := ax h) (k := 1) h2, firstNot_go (A := ax h) hA3, firstNot_go (A := ax h) hA4, firstNot_end (A := ax h) (k := 4) (fun q : ax5 h => h9 q.2)]; rfl, rfl⟩
  · have hA5 : ax h 4 := show ax5 h from ⟨fun i' j' h1 h2 => by rw [hS.N] at h1 h2; exact hJ5 i' j' h1 h2, h9⟩
    (refine zG ?_)
    exact ⟨_, H, rfl, by exact zD, by rw [firstNot_go (A := ax h) (k := 0) h1, firstNot_go (A := ax h) (k := 1) h2, firstNot_go (A := ax h) hA3, firstNot_go (A := ax h) hA4, firstNot_go (A := ax h) hA5]; rfl, rfl⟩
/-- spec.l03Fails -/
def ir38 : Cd := (.seq (.reg [⟨some 1,none,.box 40 (.t 0)⟩,⟨some 2,none,.mov (.c (.int .i64 0))⟩]) (.seq (.reg [⟨some 4,none,.ld (some 1106) (.t 1)⟩,⟨some 5,none,.call 63 [(.t 4)]⟩,⟨some 3,none,.mov (.t 5)⟩]) (.seq (.block 0 (.seq (.reg [⟨some 7,none,.mov (.t 3)⟩,⟨some 8,none,.bin .neq (.t 7) (.c (.int .i64 0))⟩,⟨some 6,none,.mov (.t 8)⟩]) (.cond (.t 6) (.seq (.reg [⟨some 9,none,.mov (.t 3)⟩,⟨some 2,none,.mov (.t 9)⟩]) .ret) (.seq (.reg [⟨some 11,none,.ld (some 1106) (.t 1)⟩,⟨some 12,none,.fa 1042 (.t 1)⟩,⟨some 13,none,.ld (some 64) (.t 12)⟩,⟨some 14,none,.call 64 [(.t 11),(.t 13),(.c (.bool false))]⟩,⟨some 15,none,.un .not (.t 14)⟩,⟨some 10,none,.mov (.t 15)⟩]) (.cond (.t 10) (.seq (.reg [⟨some 2,none,.mov (.c (.int .i64 6))⟩]) .ret) (.seq (.reg [⟨some 17,none,.ld (some 1106) (.t 1)⟩,⟨some 18,none,.fa 1042 (.t 1)⟩,⟨some 19,none,.ld (some 64) (.t 18)⟩,⟨some 20,none,.call 64 [(.t 17),(.t 19),(.c (.bool true))]⟩,⟨some 21,none,.un .not (.t 20)⟩,⟨some 16,none,.mov (.t 21)⟩]) (.cond (.t 16) (.seq (.reg [⟨some 2,none,.mov (.c (.int .i64 7))⟩]) .ret) .skip))))))) (.seq (.reg [⟨some 2,none,.mov (.c (.int .i64 0))⟩]) .ret))))
set_option maxRecDepth 100000 in
theorem tr38 : trFn Tryz.prog Tryz.f38 = some (22, ir38, [.tmp 2]) := by kernel_rfl
theorem spec_l03Fails (h : HT) (a : Nat) (K : Nat → SV) (H : Hp) (n : Nat) (hS : HS h a) (hK : h.At K) (hB : h.By) :
    FnS Tryz.prog 38 [.arr 1106 K] H n (fun r H' _ => r = i64 (firstNot (ax h) 0 7) ∧ H' = H) := by
  have e7 := firstNot_split (ax h) 2 5 0
  have hk6 := hK.s
  refine FnS.of_body Tryz.func38 tr38 (by simp) (fun hf => ?_)
  dsimp only [argEnv]
  unfold ir38
  (refine zG ?_)
  refine RS.call rfl ((FnS.args (concs_cons (conc_arr (fun q hq => rfl)) rfl) (spec_l03Bialgebra h a K _ _ hS hK hB)).mono ?_)
  rintro r H n2 hn2 ⟨rfl, rfl⟩
  (refine zG ?_)
  refine zI ?_ ?_<;>intro h1
  · (refine zG ?_)
    exact ⟨_, H, rfl, by exact zD, by rw [e7, if_neg h1], rfl⟩
  (refine zG ?_)
  refine RS.call rfl ((FnS.args (concs_cons (conc_arr (fun q hq => rfl)) rfl) (spec_l03Antipode h a false (g6 h.p h.m h.s a) rfl K _ _ hS hK hB)).mono ?_)
  rintro r H n3 hn3 ⟨rfl, rfl⟩
  (refine zG ?_)
  refine zI ?_ ?_<;>intro h2
  · (refine zG ?_)
    exact ⟨_, H, rfl, by exact zD, by rw [e7, if_pos h1, firstNot_end (A := ax h) (fun q => h2 ((ax_fold6 hS).1 q))]; rfl, rfl⟩
  (refine zG ?_)
  refine RS.call rfl ((FnS.args (concs_cons (conc_arr (fun q hq => rfl)) rfl) (spec_l03Antipode h a true (g7 h.p h.m h.s a) rfl K _ _ hS hK hB)).mono ?_)
  rintro r H n4 hn4 ⟨rfl, rfl⟩
  (refine zG ?_)
  refine zI ?_ ?_<;>intro h3
  · (refine zG ?_)
    exact ⟨_, H, rfl, by exact zD, by rw [e7, if_pos h1, firstNot_go (A := ax h) ((ax_fold6 hS).2 h2), firstNot_end (A := ax h) (fun q => h3 ((ax_fold7 hS).1 q))]; rfl, rfl⟩
  · (refine zG ?_)
    exact ⟨_, H, rfl, by exact zD, by rw [e7, if_pos h1, firstNot_go (A := ax h) ((ax_fold6 hS).2 h2), firstNot_go (A := ax h) ((ax_fold7 hS).2 h3)]; rfl, rfl⟩
/-- spec.l03Is -/
def ir22 : Cd := (.seq (.reg [⟨some 1,none,.box 40 (.t 0)⟩,⟨some 2,none,.mov (.c (.bool false))⟩]) (.seq (.reg [⟨some 3,none,.ld (some 1106) (.t 1)⟩,⟨some 4,none,.call 37 [(.t 3)]⟩,⟨some 5,none,.mov (.t 4)⟩,⟨some 6,(some (5,true)),.ld (some 1106) (.t 1)⟩,⟨some 7,(some (5,true)),.call 38 [(.t 6)]⟩,⟨some 8,(some (5,true)),.bin .eql (.t 7) (.c (.int .i64 0))⟩,⟨some 9,none,.pick (.t 5) (.t 8) (.c (.bool false))⟩,⟨some 2,none,.mov (.t 9)⟩]) .ret))
set_option maxRecDepth 100000 in
theorem tr22 : trFn Tryz.prog Tryz.f22 = some (10, ir22, [.tmp 2]) := by kernel_rfl
theorem spec_l03Is (h : HT) (K : Nat → SV) (H : Hp) (n : Nat) (hK : h.At K) (hB : h.By) :
    FnS Tryz.prog 22 [.arr 1106 K] H n (fun r H' _ => r = bl (tb (isHopf h)) ∧ H' = H) := by
  refine FnS.of_body Tryz.func22 tr22 (by simp) (fun hf => ?_)
  dsimp only [argEnv]
  unfold ir22
  (refine zG ?_)
  refine RS.call rfl ((FnS.args (concs_cons (conc_arr (fun q hq => rfl)) rfl) (spec_l03Shape h K _ _ hK hB)).mono ?_)
  rintro r H n2 hn2 ⟨rfl, rfl⟩
  (refine zG ?_)
  refine RS.sp (t := 5) rfl (fun h1 => ?_) (fun h1 => ?_) <;> (try simp only [tb_eq, tb_eqF, decide_eq_true_eq, decide_eq_false_iff_not, beq_iff_eq, bne_iff_ne, ne_eq, Decidable.not_not, beq_eq_false_iff_ne, bne_eq_false_iff_eq, Bool.not_eq_true', Bool.not_eq_false', Bool.not_eq_eq_eq_not, Bool.not_true, Bool.not_false] at h1)
  · obtain ⟨a, hS⟩ := h1.hs
    (refine zG ?_)
    refine RS.call rfl ((FnS.args (concs_cons (conc_arr (fun q hq => rfl)) rfl) (spec_l03Fails h a K _ _ hS hK hB)).mono ?_)
    rintro r H n3 hn3 ⟨rfl, rfl⟩
    (refine zG ?_)
    exact ⟨_, H, rfl, by exact zD, by rw [tb_iff (R := firstNot (ax h) 0 7 = 0) ⟨fun q => q.2, fun q => ⟨h1, q⟩⟩, tb_dec]; rfl, rfl⟩
  · (refine zG ?_)
    exact ⟨_, H, rfl, by exact zD, by rw [tb_false (fun q => h1 q.1)], rfl⟩
end Go.Proofs.YtmkegkpabifpfaaGreat

/- Contracts of the program's functions. -/
namespace Go.Proofs.YtmkegkpabifpfaaGreat
open Go.V
set_option linter.unusedSimpArgs false
set_option linter.unusedVariables false
set_option maxHeartbeats 4000000
/-- (*impl.Hopf).fails$1 -/
def ir111 : Cd := (.seq (.reg [⟨some 1,none,.mov (.c (.bool false))⟩]) (.seq (.reg [⟨some 2,none,.ld none (.t 0)⟩,⟨some 3,none,.call 107 [(.t 2)]⟩,⟨some 4,none,.ck (.t 3)⟩,⟨some 5,none,.ld (some 522) (.t 4)⟩,⟨some 6,none,.call 69 [(.t 5)]⟩,⟨some 1,none,.mov (.t 6)⟩]) .ret))
set_option maxRecDepth 100000 in
theorem tr111 : trFn Tryz.prog Tryz.f111 = some (7, ir111, [.tmp 1]) := by kernel_rfl
theorem Hopf_fails_1 (h : HT) (b nb : Nat) (K Kb : Blk) (H : Hp) (n : Nat) (hb : H.get b = some K) (hsz : K.size = 1106) (hK : h.At K.c) (hB : h.By)
    (gb : H.get nb = some Kb) (sb : Kb.size = 1) (cb : Kb.c 0 = .ptr b 0) :
    FnS Tryz.prog 111 [ptr nb 0] H n (fun r H' _ => r = bl (tb (ax h 0)) ∧ H' = H) := by
  refine FnS.of_body Tryz.func111 tr111 (by simp) (fun hf => ?_)
  dsimp only [argEnv]
  unfold ir111
  have hbn := getlt hf hb
  (refine zG ?_)
  refine RS.call rfl ((Hopf_algebra h b K _ _ (by exact zH) hsz hK).mono ?_)
  rintro r H' n2 hn2 ⟨b1, c1, rfl, q1, q2, rfl, q3, q4, q5, q6⟩
  (refine zG ?_)
  refine RS.call rfl ((impl_IsAlgebra h.p h.n h.u h.m c1 _ _ q3 q4 q5 q6 hB.u hB.m).mono ?_)
  rintro r H' n3 hn3 ⟨rfl, rfl⟩
  (refine zG ?_)
  exact ⟨_, H, rfl, by exact zD, rfl, rfl⟩
/-- (*impl.Hopf).fails$2 -/
def ir112 : Cd := (.seq (.reg [⟨some 1,none,.mov (.c (.bool false))⟩]) (.seq (.reg [⟨some 2,none,.ld none (.t 0)⟩,⟨some 3,none,.call 108 [(.t 2)]⟩,⟨some 4,none,.ck (.t 3)⟩,⟨some 5,none,.ld (some 522) (.t 4)⟩,⟨some 6,none,.call 113 [(.t 5)]⟩,⟨some 1,none,.mov (.t 6)⟩]) .ret))
set_option maxRecDepth 100000 in
theorem tr112 : trFn Tryz.prog Tryz.f112 = some (7, ir112, [.tmp 1]) := by kernel_rfl
theorem Hopf_fails_2 (h : HT) (b nb : Nat) (K Kb : Blk) (H : Hp) (n : Nat) (hb : H.get b = some K) (hsz : K.size = 1106) (hK : h.At K.c) (hB : h.By)
    (gb : H.get nb = some Kb) (sb : Kb.size = 1) (cb : Kb.c 0 = .ptr b 0) :
    FnS Tryz.prog 112 [ptr nb 0] H n (fun r H' _ => r = bl (tb (ax h 1)) ∧ H' = H) := by
  refine FnS.of_body Tryz.func112 tr112 (by simp) (fun hf => ?_)
  dsimp only [argEnv]
  unfold ir112
  have hbn := getlt hf hb
  (refine zG ?_)
  refine RS.call rfl ((Hopf_coalgebra h b K _ _ (by exact zH) hsz hK).mono ?_)
  rintro r H' n2 hn2 ⟨b1, c1, rfl, q1, q2, rfl, q3, q4, q5, q6⟩
  (refine zG ?_)
  refine RS.call rfl ((impl_IsCoalgebra h.p h.n h.e h.c c1 _ _ q3 q4 q5 q6 hB.e hB.c).mono ?_)
  rintro r H' n3 hn3 ⟨rfl, rfl⟩
  (refine zG ?_)
  exact ⟨_, H, rfl, by exact zD, rfl, rfl⟩
/-- (*impl.Hopf).fails$3 -/
def ir117 : Cd := (.seq (.reg [⟨some 1,none,.mov (.c (.bool false))⟩]) (.seq (.reg [⟨some 2,none,.ld none (.t 0)⟩,⟨some 3,none,.call 118 [(.t 2),(.c (.bool true))]⟩,⟨some 1,none,.mov (.t 3)⟩]) .ret))
set_option maxRecDepth 100000 in
theorem tr117 : trFn Tryz.prog Tryz.f117 = some (4, ir117, [.tmp 1]) := by kernel_rfl
theorem Hopf_fails_3 (h : HT) (a b nb : Nat) (K Kb : Blk) (H : Hp) (n : Nat) (hS : HS h a) (hb : H.get b = some K) (hsz : K.size = 1106) (hK : h.At K.c) (hB : h.By)
    (gb : H.get nb = some Kb) (sb : Kb.size = 1) (cb : Kb.c 0 = .ptr b 0) :
    FnS Tryz.prog 117 [ptr nb 0] H n (fun r H' _ => r = bl (tb (ax h 5)) ∧ H' = H) := by
  refine FnS.of_body Tryz.func117 tr117 (by simp) (fun hf => ?_)
  dsimp only [argEnv]
  unfold ir117
  have hbn := getlt hf hb
  (refine zG ?_)
  refine RS.call rfl ((Hopf_axiomS h a true (g6 h.p h.m h.s a) rfl b K _ _ hS (by exact zH) hsz hK hB).mono ?_)
  rintro r H n2 hn2 ⟨rfl, rfl⟩
  (refine zG ?_)
  exact ⟨_, H, rfl, by exact zD, congrArg bl (tb_iff (ax_fold6 hS).symm), rfl⟩
/-- (*impl.Hopf).fails$4 -/
def ir119 : Cd := (.seq (.reg [⟨some 1,none,.mov (.c (.bool false))⟩]) (.seq (.reg [⟨some 2,none,.ld none (.t 0)⟩,⟨some 3,none,.call 118 [(.t 2),(.c (.bool false))]⟩,⟨some 1,none,.mov (.t 3)⟩]) .ret))
set_option maxRecDepth 100000 in
theorem tr119 : trFn Tryz.prog Tryz.f119 = some (4, ir119, [.tmp 1]) := by kernel_rfl
theorem Hopf_fails_4 (h : HT) (a b nb : Nat) (K Kb : Blk) (H : Hp) (n : Nat) (hS : HS h a) (hb : H.get b = some K) (hsz : K.size = 1106) (hK : h.At K.c) (hB : h.By)
    (gb : H.get nb = some Kb) (sb : Kb.size = 1) (cb : Kb.c 0 = .ptr b 0) :
    FnS Tryz.prog 119 [ptr nb 0] H n (fun r H' _ => r = bl (tb (ax h 6)) ∧ H' = H) := by
  refine FnS.of_body Tryz.func119 tr119 (by simp) (fun hf => ?_)
  dsimp only [argEnv]
  unfold ir119
  have hbn := getlt hf hb
  (refine zG ?_)
  refine RS.call rfl ((Hopf_axiomS h a false (g7 h.p h.m h.s a) rfl b K _ _ hS (by exact zH) hsz hK hB).mono ?_)
  rintro r H n2 hn2 ⟨rfl, rfl⟩
  (refine zG ?_)
  exact ⟨_, H, rfl, by exact zD, congrArg bl (tb_iff (ax_fold7 hS).symm), rfl⟩
theorem axF_ok (h : HT) (a b nb : Nat) (K Kb : Blk) (H : Hp) (hS : HS h a) (hb : H.get b = some K) (hsz : K.size = 1106) (hK : h.At K.c) (hB : h.By)
    (gb : H.get nb = some Kb) (sb : Kb.size = 1) (cb : Kb.c 0 = .ptr b 0) (k : Nat) (hk : k < 7) :
    ∃ f pre post, axF b nb k = .fn f pre post ∧ ∀ n, FnS Tryz.prog f (pre.map .s ++ [] ++ post.map .s) H n (fun r H' _ => r = bl (tb (ax h k)) ∧ H' = H) := by
  have : k = 0 ∨ k = 1 ∨ k = 2 ∨ k = 3 ∨ k = 4 ∨ k = 5 ∨ k = 6 := by omega
  rcases this with rfl | rfl | rfl | rfl | rfl | rfl | rfl
  · exact ⟨_, _, _, rfl, fun n => Hopf_fails_1 h b nb K Kb H n hb hsz hK hB gb sb cb⟩
  · exact ⟨_, _, _, rfl, fun n => Hopf_fails_2 h b nb K Kb H n hb hsz hK hB gb sb cb⟩
  · exact ⟨_, _, _, rfl, fun n => Hopf_axiom3 h a b K H n hS hb hsz hK hB⟩
  · exact ⟨_, _, _, rfl, fun n => Hopf_axiom4 h a b K H n hS hb hsz hK hB⟩
  · exact ⟨_, _, _, rfl, fun n => Hopf_axiom5 h a b K H n hS hb hsz hK hB⟩
  · exact ⟨_, _, _, rfl, fun n => Hopf_fails_3 h a b nb K Kb H n hS hb hsz hK hB gb sb cb⟩
  · exact ⟨_, _, _, rfl, fun n => Hopf_fails_4 h a b nb K Kb H n hS hb hsz hK hB gb sb cb⟩
/-- (*impl.Hopf).fails -/
def ir91 : Cd := (.seq (.reg [⟨some 2,none,.box 59 (.t 0)⟩,⟨some 4,none,.mov (.c (.int .i64 0))⟩]) (.seq (.reg [⟨some 8,none,.mkf 111 [] [(.t 2)]⟩,⟨some 9,none,.mkf 112 [] [(.t 2)]⟩,⟨some 10,none,.ld none (.t 2)⟩,⟨some 11,none,.mkf 114 [(.t 10)] []⟩,⟨some 12,none,.ld none (.t 2)⟩,⟨some 13,none,.mkf 115 [(.t 12)] []⟩,⟨some 14,none,.ld none (.t 2)⟩,⟨some 15,none,.mkf 116 [(.t 14)] []⟩,⟨some 16,none,.mkf 117 [] [(.t 2)]⟩,⟨some 17,none,.mkf 119 [] [(.t 2)]⟩,⟨some 18,none,.bsl 106 7 1 [(1,.nilfn)] [(0,1,(.t 8)),(1,1,(.t 9)),(2,1,(.t 11)),(3,1,(.t 13)),(4,1,(.t 15)),(5,1,(.t 16)),(6,1,(.t 17))]⟩,⟨some 5,none,.mov (.t 18)⟩]) (.seq (.seq (.reg [⟨some 19,none,.mov (.t 5)⟩,⟨some 20,none,.mov (.t 1)⟩,⟨some 21,none,.sls 1 (.t 19) none (some (.t 20)) none⟩,⟨some 22,none,.len (.t 21)⟩,⟨some 23,none,.mov (.c (.int .i64 0))⟩]) (.block 0 (.loop (.seq (.reg [⟨some 24,none,.bin .lss (.t 23) (.t 22)⟩]) (.seq (.cond (.t 24) .skip (.exit 0)) (.seq (.block 1 (.seq (.reg [⟨some 25,none,.mov (.t 23)⟩,⟨some 26,none,.isl 1 (.t 21) (.t 23)⟩,⟨some 27,none,.ld none (.t 26)⟩,⟨some 6,none,.mov (.t 25)⟩,⟨some 7,none,.mov (.t 27)⟩]) (.seq (.reg [⟨some 28,none,.mov (.t 7)⟩,⟨some 29,none,.callv (.t 28) []⟩,⟨some 30,none,.un .not (.t 29)⟩]) (.cond (.t 30) (.seq (.reg [⟨some 31,none,.mov (.t 6)⟩,⟨some 32,none,.bin .add (.t 31) (.c (.int .i64 1))⟩,⟨some 4,none,.mov (.t 32)⟩]) .ret) .skip)))) (.reg [⟨some 33,none,.bin .add (.t 23) (.c (.int .i64 1))⟩,⟨some 23,none,.mov (.t 33)⟩]))))))) (.seq (.reg [⟨some 4,none,.mov (.c (.int .i64 0))⟩]) .ret))))
set_option maxRecDepth 100000 in
theorem tr91 : trFn Tryz.prog Tryz.f91 = some (34, ir91, [.tmp 4]) := by kernel_rfl
theorem Hopf_fails (h : HT) (a b up : Nat) (K : Blk) (H : Hp) (n : Nat) (hup : up ≤ 7) (hS : HS h a) (hb : H.get b = some K) (hsz : K.size = 1106) (hK : h.At K.c) (hB : h.By) :
    FnS Tryz.prog 91 [ptr b 0, i64 up] H n (fun r H' _ => r = i64 (firstNot (ax h) 0 up) ∧ H' = H) := by
  refine FnS.of_body Tryz.func91 tr91 (by simp) (fun hf => ?_)
  dsimp only [argEnv]
  unfold ir91
  have hbn := getlt hf hb
  (refine zG ?_)
  refine RS.slsTo (by exact rfl) (by exact rfl) rfl (by omega) ?_
  (refine zG ?_)
  refine CS.iter up (fun k => [(23, i64 k), (22, i64 up), (21, .s (.slc (n + 1) 0 up 7))]) (fun _ => (n + 1, ⟨7, axF b n, 106⟩) :: (n, ⟨1, fun _ => .ptr b 0, 59⟩) :: H)
    (fun k => firstNot (ax h) 0 up = firstNot (ax h) k (up - k)) (by (repeat first | exact trivial | refine And.intro rfl ?_)) (Drops.keepc rfl rfl (fun q hq => ?_) (Drops.refl _ _)) rfl ?_
  · have hq7 : q < 7 := hq
    have : q = 0 ∨ q = 1 ∨ q = 2 ∨ q = 3 ∨ q = 4 ∨ q = 5 ∨ q = 6 := by omega
    rcases this with rfl | rfl | rfl | rfl | rfl | rfl | rfl <;> rfl
  intro k n1 hk hn hJ
  (refine zG ?_)
  refine zI ?_ ?_<;>intro h2
  · obtain ⟨f, pre, post, e, hF⟩ := axF_ok h a b n K ⟨1, fun _ => .ptr b 0, 59⟩ ((n + 1, ⟨7, axF b n, 106⟩) :: (n, ⟨1, fun _ => .ptr b 0, 59⟩) :: H) hS (by exact zH) hsz hK hB (by exact zH) rfl rfl k (by omega)
    have e' : (⟨7, axF b n, 106⟩ : Blk).c (0 + k * 1) = .fn f pre post := by rw [Nat.zero_add, Nat.mul_one]; exact e
    (refine zG ?_)
    refine RS.callv (f := f) (pre := pre) (post := post) (vs := []) (by exact rfl) (by exact rfl) ?_
    refine FnS.mono (hF n1) ?_
    rintro r H' n2 hn2 ⟨rfl, rfl⟩
    (refine zG ?_)
    refine zI ?_ ?_<;>intro h3
    · (refine zG ?_)
      exact ⟨_, H, rfl, by exact zD, by rw [hJ, show up - k = (up - k - 1) + 1 by omega, firstNot_end h3], rfl⟩
    · (refine zG ?_)
      exact ⟨by omega, by (repeat first | exact trivial | refine And.intro rfl ?_), by exact zD, by rw [hJ, show up - k = (up - (k + 1)) + 1 by omega, firstNot_go h3]⟩
  · have : k = up := by omega
    subst this
    (refine zG ?_)
    exact ⟨_, H, rfl, by exact zD, by rw [hJ, Nat.sub_self]; rfl, rfl⟩
/-- impl.IsHopf -/
def ir67 : Cd := (.seq (.reg [⟨some 1,none,.box 40 (.t 0)⟩,⟨some 2,none,.mov (.c (.bool false))⟩]) (.seq (.reg [⟨some 3,none,.call 90 [(.t 1)]⟩,⟨some 4,none,.mov (.t 3)⟩,⟨some 5,(some (4,true)),.call 91 [(.t 1),(.c (.int .i64 7))]⟩,⟨some 6,(some (4,true)),.bin .eql (.t 5) (.c (.int .i64 0))⟩,⟨some 7,none,.pick (.t 4) (.t 6) (.c (.bool false))⟩,⟨some 2,none,.mov (.t 7)⟩]) .ret))
set_option maxRecDepth 100000 in
theorem tr67 : trFn Tryz.prog Tryz.f67 = some (8, ir67, [.tmp 2]) := by kernel_rfl
theorem impl_IsHopf (h : HT) (K : Nat → SV) (H : Hp) (n : Nat) (hK : h.At K) (hB : h.By) :
    FnS Tryz.prog 67 [.arr 1106 K] H n (fun r H' _ => r = bl (tb (isHopf h)) ∧ H' = H) := by
  refine FnS.of_body Tryz.func67 tr67 (by simp) (fun hf => ?_)
  dsimp only [argEnv]
  unfold ir67
  (refine zG ?_)
  refine RS.call rfl ((Hopf_isShaped h n ⟨1106, K, 40⟩ _ _ (by exact zH) rfl hK hB).mono ?_)
  rintro r H' n2 hn2 ⟨rfl, rfl⟩
  (refine zG ?_)
  refine RS.sp (t := 4) rfl (fun h1 => ?_) (fun h1 => ?_) <;> (try simp only [tb_eq, tb_eqF, decide_eq_true_eq, decide_eq_false_iff_not, beq_iff_eq, bne_iff_ne, ne_eq, Decidable.not_not, beq_eq_false_iff_ne, bne_eq_false_iff_eq, Bool.not_eq_true', Bool.not_eq_false', Bool.not_eq_eq_eq_not, Bool.not_true, Bool.not_false] at h1)
  · obtain ⟨a, hS⟩ := h1.hs
    (refine zG ?_)
    refine RS.call rfl ((Hopf_fails h a n 7 ⟨1106, K, 40⟩ _ _ (by omega) hS (by exact zH) rfl hK hB).mono ?_)
    rintro r H' n3 hn3 ⟨rfl, rfl⟩
    (refine zG ?_)
    exact ⟨_, H, rfl, by exact zD, by rw [tb_iff (R := firstNot (ax h) 0 7 = 0) ⟨fun q => q.2, fun q => ⟨h1, q⟩⟩, tb_dec]; rfl, rfl⟩
  · (refine zG ?_)
    exact ⟨_, H, rfl, by exact zD, by rw [tb_false (fun q => h1 q.1)], rfl⟩
end Go.Proofs.YtmkegkpabifpfaaGreat

/- All of them. -/
