/- Contracts of the program's functions. -/
import Derived.Test.YtbknndbfbebkdaaGreatRR
import Derived.Test.YtbknndbfbebkdaaGreatRLW
import Derived.Test.YtbknndbfbebkdaaGreatRQ2a
import Derived.Test.YtbknndbfbebkdaaGreatRQ2b
namespace Go.Proofs.YtbknndbfbebkdaaGreatR
open Go.V
set_option linter.unusedSimpArgs false
set_option linter.unusedVariables false
set_option maxHeartbeats 4000000
/-- laws.toHopf -/
def ir9 : Cd := (.seq (.reg [⟨some 1,none,.box 26 (.t 0)⟩,⟨some 2,none,.new 35 [(2,(.int .i64 0)),(1104,(.int .u8 0))]⟩]) (.seq (.reg [⟨some 3,none,.new 35 [(2,(.int .i64 0)),(1104,(.int .u8 0))]⟩]) (.seq (.reg [⟨some 4,none,.fa 0 (.t 1)⟩,⟨some 5,none,.ld none (.t 4)⟩,⟨some 6,none,.fa 0 (.t 3)⟩,⟨none,none,.st 1 (.t 6) (.t 5)⟩]) (.seq (.reg [⟨some 7,none,.fa 1 (.t 1)⟩,⟨some 8,none,.ld none (.t 7)⟩,⟨some 9,none,.fa 1 (.t 3)⟩,⟨none,none,.st 1 (.t 9) (.t 8)⟩]) (.seq (.reg [⟨some 10,none,.fa 2 (.t 1)⟩,⟨some 11,none,.ld (some 8) (.t 10)⟩,⟨some 12,none,.call 23 [(.t 11)]⟩,⟨some 13,none,.fa 2 (.t 3)⟩,⟨none,none,.st 8 (.t 13) (.t 12)⟩]) (.seq (.reg [⟨some 14,none,.fa 10 (.t 1)⟩,⟨some 15,none,.ld (some 512) (.t 14)⟩,⟨some 16,none,.call 24 [(.t 15)]⟩,⟨some 17,none,.fa 10 (.t 3)⟩,⟨none,none,.st 512 (.t 17) (.t 16)⟩]) (.seq (.reg [⟨some 18,none,.fa 522 (.t 1)⟩,⟨some 19,none,.ld (some 8) (.t 18)⟩,⟨some 20,none,.call 23 [(.t 19)]⟩,⟨some 21,none,.fa 522 (.t 3)⟩,⟨none,none,.st 8 (.t 21) (.t 20)⟩]) (.seq (.reg [⟨some 22,none,.fa 530 (.t 1)⟩,⟨some 23,none,.ld (some 512) (.t 22)⟩,⟨some 24,none,.call 24 [(.t 23)]⟩,⟨some 25,none,.fa 530 (.t 3)⟩,⟨none,none,.st 512 (.t 25) (.t 24)⟩]) (.seq (.reg [⟨some 26,none,.fa 1042 (.t 1)⟩,⟨some 27,none,.ld (some 64) (.t 26)⟩,⟨some 28,none,.call 10 [(.t 27)]⟩,⟨some 29,none,.fa 1042 (.t 3)⟩,⟨none,none,.st 64 (.t 29) (.t 28)⟩]) (.seq (.reg [⟨some 30,none,.ld (some 1106) (.t 3)⟩,⟨none,none,.st 1106 (.t 2) (.t 30)⟩]) .ret))))))))))
set_option maxRecDepth 100000 in
theorem tr9 : trFn Tryz.prog Tryz.f9 = some (31, ir9, [.cell (some 1106) 2]) := by kernel_rfl
theorem laws_toHopf (h : HT) (K : Nat → SV) (H : Hp) (n : Nat) (hK : h.At K) :
    FnS Tryz.prog 9 [.arr 1106 K] H n (fun r H' _ => r = .arr 1106 K ∧ H' = H) := by
  obtain ⟨k0, k1, k2, k3, k4, k5, k6⟩ := hK
  refine FnS.of_body Tryz.func9 tr9 (by simp) (fun hf => ?_)
  dsimp only [argEnv]
  unfold ir9
  (repeat first|refine zG ?_|(refine LS.nilO ?_;intro nq hnq hltq;try refine zU ?_)|(refine MS.new ?_;intro bq hbq hbqf;try refine zU ?_)|(refine MS.nil ?_;intro nq hnq hltq;have hlq:=hltq _ _ (Hp.get_eq _ _ _);clear hltq;try refine zU ?_)|(refine LS.nilQ ?_;try with_reducible intro nq hnq;try refine zU ?_))
  refine RS.call rfl ((laws_toVector h.u _ _).mono ?_)
  rintro r H' n2 hn2 ⟨rfl, rfl⟩
  (repeat first|refine zG ?_|(refine LS.nilO ?_;intro nq hnq hltq;try refine zU ?_)|(refine MS.new ?_;intro bq hbq hbqf;try refine zU ?_)|(refine MS.nil ?_;intro nq hnq hltq;have hlq:=hltq _ _ (Hp.get_eq _ _ _);clear hltq;try refine zU ?_)|(refine LS.nilQ ?_;try with_reducible intro nq hnq;try refine zU ?_))
  refine RS.call rfl ((laws_toTable h.m _ _).mono ?_)
  rintro r H' n3 hn3 ⟨rfl, rfl⟩
  (repeat first|refine zG ?_|(refine LS.nilO ?_;intro nq hnq hltq;try refine zU ?_)|(refine MS.new ?_;intro bq hbq hbqf;try refine zU ?_)|(refine MS.nil ?_;intro nq hnq hltq;have hlq:=hltq _ _ (Hp.get_eq _ _ _);clear hltq;try refine zU ?_)|(refine LS.nilQ ?_;try with_reducible intro nq hnq;try refine zU ?_))
  refine RS.call rfl ((laws_toVector h.e _ _).mono ?_)
  rintro r H' n4 hn4 ⟨rfl, rfl⟩
  (repeat first|refine zG ?_|(refine LS.nilO ?_;intro nq hnq hltq;try refine zU ?_)|(refine MS.new ?_;intro bq hbq hbqf;try refine zU ?_)|(refine MS.nil ?_;intro nq hnq hltq;have hlq:=hltq _ _ (Hp.get_eq _ _ _);clear hltq;try refine zU ?_)|(refine LS.nilQ ?_;try with_reducible intro nq hnq;try refine zU ?_))
  refine RS.call rfl ((laws_toTable h.c _ _).mono ?_)
  rintro r H' n5 hn5 ⟨rfl, rfl⟩
  (repeat first|refine zG ?_|(refine LS.nilO ?_;intro nq hnq hltq;try refine zU ?_)|(refine MS.new ?_;intro bq hbq hbqf;try refine zU ?_)|(refine MS.nil ?_;intro nq hnq hltq;have hlq:=hltq _ _ (Hp.get_eq _ _ _);clear hltq;try refine zU ?_)|(refine LS.nilQ ?_;try with_reducible intro nq hnq;try refine zU ?_))
  refine RS.call rfl ((laws_toLinear h.s _ _).mono ?_)
  rintro r H' n6 hn6 ⟨rfl, rfl⟩
  (repeat first|refine zG ?_|(refine LS.nilO ?_;intro nq hnq hltq;try refine zU ?_)|(refine MS.new ?_;intro bq hbq hbqf;try refine zU ?_)|(refine MS.nil ?_;intro nq hnq hltq;have hlq:=hltq _ _ (Hp.get_eq _ _ _);clear hltq;try refine zU ?_)|(refine LS.nilQ ?_;try with_reducible intro nq hnq;try refine zU ?_))
  refine ⟨.arr 1106 K, H, conc_arr (fun q hq => ?_), by exact zD, rfl, rfl⟩
  simp only [Nat.zero_add, splice, put1]
  by_cases e0 : q < 2
  · rw [if_neg (by omega), if_neg (by omega), if_neg (by omega), if_neg (by omega), if_neg (by omega)]
    by_cases e1 : q = 1
    · subst e1; rw [if_pos rfl]; exact k1.symm
    · have : q = 0 := by omega
      subst this; rw [if_neg (by omega), if_pos rfl]; exact k0.symm
  by_cases e1 : q < 10
  · rw [if_neg (by omega), if_neg (by omega), if_neg (by omega), if_neg (by omega), if_pos (by omega)]
    have := k2 (q - 2) (by omega)
    rw [show 2 + (q - 2) = q by omega] at this
    rw [this]; rfl
  by_cases e2 : q < 522
  · rw [if_neg (by omega), if_neg (by omega), if_neg (by omega), if_pos (by omega)]
    have := k3 (q - 10) (by omega)
    rw [show 10 + (q - 10) = q by omega] at this
    rw [this]; rfl
  by_cases e3 : q < 530
  · rw [if_neg (by omega), if_neg (by omega), if_pos (by omega)]
    have := k4 (q - 522) (by omega)
    rw [show 522 + (q - 522) = q by omega] at this
    rw [this]; rfl
  by_cases e4 : q < 1042
  · rw [if_neg (by omega), if_pos (by omega)]
    have := k5 (q - 530) (by omega)
    rw [show 530 + (q - 530) = q by omega] at this
    rw [this]; rfl
  · rw [if_pos (by omega)]
    have := k6 (q - 1042) (by omega)
    rw [show 1042 + (q - 1042) = q by omega] at this
    rw [this]; rfl
/-- spec.l10Cocycle -/
def ir27 : Cd := (.seq (.reg [⟨some 2,none,.box 35 (.t 0)⟩,⟨some 3,none,.box 31 (.t 1)⟩,⟨some 4,none,.mov (.c (.bool false))⟩]) (.seq (.seq (.reg [⟨some 11,none,.ld (some 1106) (.t 2)⟩,⟨some 12,none,.ld (some 64) (.t 3)⟩,⟨some 13,none,.call 56 [(.t 11),(.t 12)]⟩,⟨some 14,none,.un .not (.t 13)⟩]) (.cond (.t 14) (.seq (.reg [⟨some 4,none,.mov (.c (.bool false))⟩]) .ret) .skip)) (.seq (.reg [⟨some 15,none,.build 512 [(512,(.int .u8 0))] []⟩,⟨some 5,none,.new 33 [(512,(.int .u8 0))]⟩,⟨none,none,.st 512 (.t 5) (.t 15)⟩]) (.seq (.seq (.reg [⟨some 6,none,.mov (.c (.int .i64 0))⟩]) (.block 0 (.loop (.seq (.seq (.reg [⟨some 16,none,.mov (.t 6)⟩,⟨some 17,none,.fa 1 (.t 2)⟩,⟨some 18,none,.ld none (.t 17)⟩,⟨some 19,none,.bin .lss (.t 16) (.t 18)⟩]) (.cond (.t 19) .skip (.exit 0))) (.seq (.block 1 (.seq (.reg [⟨some 7,none,.mov (.c (.int .i64 0))⟩]) (.block 2 (.loop (.seq (.seq (.reg [⟨some 22,none,.mov (.t 7)⟩,⟨some 23,none,.fa 1 (.t 2)⟩,⟨some 24,none,.ld none (.t 23)⟩,⟨some 25,none,.bin .lss (.t 22) (.t 24)⟩]) (.cond (.t 25) .skip (.exit 2))) (.seq (.block 3 (.drw true [9] [⟨some 28,none,.mov (.t 6)⟩,⟨some 29,none,.mov (.t 7)⟩,⟨some 30,none,.ld (some 1106) (.t 2)⟩,⟨some 31,none,.ld (some 64) (.t 3)⟩,⟨some 32,none,.mov (.t 6)⟩,⟨some 33,none,.mov (.t 7)⟩,⟨some 34,none,.call 28 [(.t 30),(.t 31),(.t 32),(.t 33)]⟩,⟨some 35,none,.ia 8 64 (.t 5) (.t 28)⟩,⟨some 36,none,.ia 8 8 (.t 35) (.t 29)⟩,⟨none,none,.st 8 (.t 36) (.t 34)⟩])) (.reg [⟨some 26,none,.mov (.t 7)⟩,⟨some 27,none,.bin .add (.t 26) (.c (.int .i64 1))⟩,⟨some 7,none,.mov (.t 27)⟩]))))))) (.reg [⟨some 20,none,.mov (.t 6)⟩,⟨some 21,none,.bin .add (.t 20) (.c (.int .i64 1))⟩,⟨some 6,none,.mov (.t 21)⟩])))))) (.seq (.seq (.reg [⟨some 8,none,.mov (.c (.int .i64 0))⟩]) (.block 4 (.loop (.seq (.seq (.reg [⟨some 37,none,.mov (.t 8)⟩,⟨some 38,none,.fa 1 (.t 2)⟩,⟨some 39,none,.ld none (.t 38)⟩,⟨some 40,none,.bin .lss (.t 37) (.t 39)⟩]) (.cond (.t 40) .skip (.exit 4))) (.seq (.block 5 (.seq (.reg [⟨some 9,none,.mov (.c (.int .i64 0))⟩]) (.block 6 (.loop (.seq (.seq (.reg [⟨some 43,none,.mov (.t 9)⟩,⟨some 44,none,.fa 1 (.t 2)⟩,⟨some 45,none,.ld none (.t 44)⟩,⟨some 46,none,.bin .lss (.t 43) (.t 45)⟩]) (.cond (.t 46) .skip (.exit 6))) (.seq (.block 7 (.seq (.reg [⟨some 10,none,.mov (.c (.int .i64 0))⟩]) (.block 8 (.loop (.seq (.seq (.reg [⟨some 49,none,.mov (.t 10)⟩,⟨some 50,none,.fa 1 (.t 2)⟩,⟨some 51,none,.ld none (.t 50)⟩,⟨some 52,none,.bin .lss (.t 49) (.t 51)⟩]) (.cond (.t 52) .skip (.exit 8))) (.seq (.block 9 (.seq (.drwo true [19] [0,1,2,3,4,5,6,7,10,11,12,14,15,16,17,18,8,9,13,19,20] [⟨some 55,none,.ld (some 1106) (.t 2)⟩,⟨some 56,none,.ld (some 64) (.t 3)⟩,⟨some 57,none,.mov (.t 8)⟩,⟨some 58,none,.mov (.t 9)⟩,⟨some 59,none,.ia 8 64 (.t 5) (.t 57)⟩,⟨some 60,none,.ia 8 8 (.t 59) (.t 58)⟩,⟨some 61,none,.ld (some 8) (.t 60)⟩,⟨some 62,none,.mov (.t 10)⟩,⟨some 63,none,.call 58 [(.t 62)]⟩,⟨some 64,none,.call 57 [(.t 55),(.t 56),(.t 61),(.t 63)]⟩,⟨some 65,none,.ld (some 1106) (.t 2)⟩,⟨some 66,none,.ld (some 64) (.t 3)⟩,⟨some 67,none,.mov (.t 8)⟩,⟨some 68,none,.call 58 [(.t 67)]⟩,⟨some 69,none,.mov (.t 9)⟩,⟨some 70,none,.mov (.t 10)⟩,⟨some 71,none,.ia 8 64 (.t 5) (.t 69)⟩,⟨some 72,none,.ia 8 8 (.t 71) (.t 70)⟩,⟨some 73,none,.ld (some 8) (.t 72)⟩,⟨some 74,none,.call 57 [(.t 65),(.t 66),(.t 68),(.t 73)]⟩,⟨some 75,none,.bin .neq (.t 64) (.t 74)⟩]) (.cond (.t 75) (.seq (.reg [⟨some 4,none,.mov (.c (.bool false))⟩]) .ret) .skip))) (.reg [⟨some 53,none,.mov (.t 10)⟩,⟨some 54,none,.bin .add (.t 53) (.c (.int .i64 1))⟩,⟨some 10,none,.mov (.t 54)⟩]))))))) (.reg [⟨some 47,none,.mov (.t 9)⟩,⟨some 48,none,.bin .add (.t 47) (.c (.int .i64 1))⟩,⟨some 9,none,.mov (.t 48)⟩]))))))) (.reg [⟨some 41,none,.mov (.t 8)⟩,⟨some 42,none,.bin .add (.t 41) (.c (.int .i64 1))⟩,⟨some 8,none,.mov (.t 42)⟩])))))) (.seq (.reg [⟨some 4,none,.mov (.c (.bool true))⟩]) .ret))))))
set_option maxRecDepth 100000 in
theorem tr27 : trFn Tryz.prog Tryz.f27 = some (76, ir27, [.tmp 4]) := by kernel_rfl
theorem spec_l10Cocycle (h : HT) (a : Nat) (S : Nat → Int) (K : Nat → SV) (H : Hp) (n : Nat) (hS : HS h a) (hK : h.At K) (hB : h.By) (hSb : isBy 64 S) (hz : lz a S) :
    FnS Tryz.prog 27 [.arr 1106 K, .arr 64 (bys S)] H n (fun r H' _ => r = bl (tb (normed h a S ∧ cocyc h.p h.m h.c S a)) ∧ H' = H) := by
  have hp := hS.hp
  have ha := hS.ha
  have hk0 := hK.p
  have hk1 := hK.n
  rw [hS.hn] at hk1
  refine FnS.of_body Tryz.func27 tr27 (by simp) (fun hf => ?_)
  dsimp only [argEnv]
  unfold ir27
  (repeat first|refine zG ?_|(refine LS.nilO ?_;intro nq hnq hltq;try refine zU ?_)|(refine MS.new ?_;intro bq hbq hbqf;try refine zU ?_)|(refine MS.nil ?_;intro nq hnq hltq;have hlq:=hltq _ _ (Hp.get_eq _ _ _);clear hltq;try refine zU ?_)|(refine LS.nilQ ?_;try with_reducible intro nq hnq;try refine zU ?_))
  refine RS.call rfl ((FnS.args (concs_cons (conc_arr (fun q hq => rfl)) rfl) (spec_l10Normed h a S K _ _ hS hK hB hSb hz)).mono ?_)
  rintro r H' n3 hn3 ⟨rfl, rfl⟩
  (repeat first|refine zG ?_|(refine LS.nilO ?_;intro nq hnq hltq;try refine zU ?_)|(refine MS.new ?_;intro bq hbq hbqf;try refine zU ?_)|(refine MS.nil ?_;intro nq hnq hltq;have hlq:=hltq _ _ (Hp.get_eq _ _ _);clear hltq;try refine zU ?_)|(refine LS.nilQ ?_;try with_reducible intro nq hnq;try refine zU ?_))
  refine zI ?_ ?_<;>intro h1
  · (repeat first|refine zG ?_|(refine LS.nilO ?_;intro nq hnq hltq;try refine zU ?_)|(refine MS.new ?_;intro bq hbq hbqf;try refine zU ?_)|(refine MS.nil ?_;intro nq hnq hltq;have hlq:=hltq _ _ (Hp.get_eq _ _ _);clear hltq;try refine zU ?_)|(refine LS.nilQ ?_;try with_reducible intro nq hnq;try refine zU ?_))
    exact ⟨_, H, rfl, by exact zD, by rw [tb_false (fun q => h1 q.1)], rfl⟩
  (repeat first|refine zG ?_|(refine LS.nilO ?_;intro nq hnq hltq;try refine zU ?_)|(refine MS.new ?_;intro bq hbq hbqf;try refine zU ?_)|(refine MS.nil ?_;intro nq hnq hltq;have hlq:=hltq _ _ (Hp.get_eq _ _ _);clear hltq;try refine zU ?_)|(refine LS.nilQ ?_;try with_reducible intro nq hnq;try refine zU ?_))
  refine CS.iter a (fun i => [(6, i64 i), (2, ptr n 0), (3, ptr (n + 1) 0), (5, ptr n3 0)])
    (fun i => (n3, ⟨512, bys (rowsTo (fun _ => 0) (legs h.p h.m h.c S) (8 * i)), 33⟩) :: (n + 1, ⟨64, bys S, 31⟩) :: (n, ⟨1106, K, 35⟩) :: H) (fun _ => True) (by (repeat first | exact trivial | refine And.intro rfl ?_))
    (Drops.keepc rfl rfl (fun _ _ => by rw [show rowsTo (fun _ => 0) (legs h.p h.m h.c S) (8 * 0) = fun _ => 0 from rowsTo_zero _ _]; rfl) (Drops.refl _ _)) trivial ?_
  intro i n4 hi hn4 _
  (repeat first|refine zG ?_|(refine LS.nilO ?_;intro nq hnq hltq;try refine zU ?_)|(refine MS.new ?_;intro bq hbq hbqf;try refine zU ?_)|(refine MS.nil ?_;intro nq hnq hltq;have hlq:=hltq _ _ (Hp.get_eq _ _ _);clear hltq;try refine zU ?_)|(refine LS.nilQ ?_;try with_reducible intro nq hnq;try refine zU ?_))
  refine zI ?_ ?_<;>intro h2
  · (repeat first|refine zG ?_|(refine LS.nilO ?_;intro nq hnq hltq;try refine zU ?_)|(refine MS.new ?_;intro bq hbq hbqf;try refine zU ?_)|(refine MS.nil ?_;intro nq hnq hltq;have hlq:=hltq _ _ (Hp.get_eq _ _ _);clear hltq;try refine zU ?_)|(refine LS.nilQ ?_;try with_reducible intro nq hnq;try refine zU ?_))
    refine CS.iter a (fun j => [(7, i64 j), (6, i64 i), (2, ptr n 0), (3, ptr (n + 1) 0), (5, ptr n3 0)])
      (fun j => (n3, ⟨512, bys (rowsTo (fun _ => 0) (legs h.p h.m h.c S) (8 * i + j)), 33⟩) :: (n + 1, ⟨64, bys S, 31⟩) :: (n, ⟨1106, K, 35⟩) :: H) (fun _ => True) (by (repeat first | exact trivial | refine And.intro rfl ?_)) (Drops.refl _ _) trivial ?_
    intro j n5 hj hn5 _
    (repeat first|refine zG ?_|(refine LS.nilO ?_;intro nq hnq hltq;try refine zU ?_)|(refine MS.new ?_;intro bq hbq hbqf;try refine zU ?_)|(refine MS.nil ?_;intro nq hnq hltq;have hlq:=hltq _ _ (Hp.get_eq _ _ _);clear hltq;try refine zU ?_)|(refine LS.nilQ ?_;try with_reducible intro nq hnq;try refine zU ?_))
    refine zI ?_ ?_<;>intro h3
    · (repeat first|refine zG ?_|(refine LS.nilO ?_;intro nq hnq hltq;try refine zU ?_)|(refine MS.new ?_;intro bq hbq hbqf;try refine zU ?_)|(refine MS.nil ?_;intro nq hnq hltq;have hlq:=hltq _ _ (Hp.get_eq _ _ _);clear hltq;try refine zU ?_)|(refine LS.nilQ ?_;try with_reducible intro nq hnq;try refine zU ?_))
      refine LS.callQ (.arr 8 (bys (leg h.p h.m h.c S i j))) rfl (fun n' hn' => FnS.args (concs_cons (conc_arr (fun q hq => rfl)) rfl) (spec_l10Product h a S i j (by omega) (by omega) K _ _ hS hK hB hSb)) ?_
      (repeat first|refine zG ?_|(refine LS.nilO ?_;intro nq hnq hltq;try refine zU ?_)|(refine MS.new ?_;intro bq hbq hbqf;try refine zU ?_)|(refine MS.nil ?_;intro nq hnq hltq;have hlq:=hltq _ _ (Hp.get_eq _ _ _);clear hltq;try refine zU ?_)|(refine LS.nilQ ?_;try with_reducible intro nq hnq;try refine zU ?_))
      refine ⟨by omega, by (repeat first | exact trivial | refine And.intro rfl ?_), Drops.keepc rfl rfl (fun q hq => ?_) (Drops.refl _ _), trivial⟩
      rw [show 64 * i + 8 * j = 8 * (8 * i + j) by omega]
      exact rowsTo_step (fun y hy => by rw [show 8 * (8 * i + j) = 64 * i + 8 * j by omega, legs_at _ _ _ _ _ _ _ (by omega) hy]) q
    · have : j = a := by omega
      subst this
      (repeat first|refine zG ?_|(refine LS.nilO ?_;intro nq hnq hltq;try refine zU ?_)|(refine MS.new ?_;intro bq hbq hbqf;try refine zU ?_)|(refine MS.nil ?_;intro nq hnq hltq;have hlq:=hltq _ _ (Hp.get_eq _ _ _);clear hltq;try refine zU ?_)|(refine LS.nilQ ?_;try with_reducible intro nq hnq;try refine zU ?_))
      exact ⟨by omega, by (repeat first | exact trivial | refine And.intro rfl ?_), Drops.keepc rfl rfl (fun q hq => by
        rw [rowsTo_more (x := 8 * i + j) (y := 8 * (i + 1)) (by omega) (fun q q1 q2 => by unfold legs; rw [leg_zero hS.cm (by omega) (by omega) (by omega)])]) (Drops.refl _ _), trivial⟩
  have : i = a := by omega
  subst this
  (repeat first|refine zG ?_|(refine LS.nilO ?_;intro nq hnq hltq;try refine zU ?_)|(refine MS.new ?_;intro bq hbq hbqf;try refine zU ?_)|(refine MS.nil ?_;intro nq hnq hltq;have hlq:=hltq _ _ (Hp.get_eq _ _ _);clear hltq;try refine zU ?_)|(refine LS.nilQ ?_;try with_reducible intro nq hnq;try refine zU ?_))
  refine CS.iter i (fun x => [(8, i64 x), (2, ptr n 0), (3, ptr (n + 1) 0), (5, ptr n3 0)]) (fun _ => (n3, ⟨512, bys (rowsTo (fun _ => 0) (legs h.p h.m h.c S) (8 * i)), 33⟩) :: (n + 1, ⟨64, bys S, 31⟩) :: (n, ⟨1106, K, 35⟩) :: H)
    (fun x => Bx (∀ i' j k : Nat, i' < x → j < i → k < i → bil h.p S (leg h.p h.m h.c S i' j) (bas k) = bil h.p S (bas i') (leg h.p h.m h.c S j k))) (by (repeat first | exact trivial | refine And.intro rfl ?_)) (by exact zD) ⟨fun _ _ _ h => by omega⟩ ?_
  intro x n5 hx hn5 hJ
  (repeat first|refine zG ?_|(refine LS.nilO ?_;intro nq hnq hltq;try refine zU ?_)|(refine MS.new ?_;intro bq hbq hbqf;try refine zU ?_)|(refine MS.nil ?_;intro nq hnq hltq;have hlq:=hltq _ _ (Hp.get_eq _ _ _);clear hltq;try refine zU ?_)|(refine LS.nilQ ?_;try with_reducible intro nq hnq;try refine zU ?_))
  refine zI ?_ ?_<;>intro h3
  · (repeat first|refine zG ?_|(refine LS.nilO ?_;intro nq hnq hltq;try refine zU ?_)|(refine MS.new ?_;intro bq hbq hbqf;try refine zU ?_)|(refine MS.nil ?_;intro nq hnq hltq;have hlq:=hltq _ _ (Hp.get_eq _ _ _);clear hltq;try refine zU ?_)|(refine LS.nilQ ?_;try with_reducible intro nq hnq;try refine zU ?_))
    refine CS.iter i (fun j => [(9, i64 j), (8, i64 x), (2, ptr n 0), (3, ptr (n + 1) 0), (5, ptr n3 0)]) (fun _ => (n3, ⟨512, bys (rowsTo (fun _ => 0) (legs h.p h.m h.c S) (8 * i)), 33⟩) :: (n + 1, ⟨64, bys S, 31⟩) :: (n, ⟨1106, K, 35⟩) :: H)
      (fun j => Bx (∀ j' k : Nat, j' < j → k < i → bil h.p S (leg h.p h.m h.c S x j') (bas k) = bil h.p S (bas x) (leg h.p h.m h.c S j' k))) (by (repeat first | exact trivial | refine And.intro rfl ?_)) (by exact zD) ⟨fun _ _ h => by omega⟩ ?_
    intro j n6 hj hn6 hJ2
    (repeat first|refine zG ?_|(refine LS.nilO ?_;intro nq hnq hltq;try refine zU ?_)|(refine MS.new ?_;intro bq hbq hbqf;try refine zU ?_)|(refine MS.nil ?_;intro nq hnq hltq;have hlq:=hltq _ _ (Hp.get_eq _ _ _);clear hltq;try refine zU ?_)|(refine LS.nilQ ?_;try with_reducible intro nq hnq;try refine zU ?_))
    refine zI ?_ ?_<;>intro h4
    · (repeat first|refine zG ?_|(refine LS.nilO ?_;intro nq hnq hltq;try refine zU ?_)|(refine MS.new ?_;intro bq hbq hbqf;try refine zU ?_)|(refine MS.nil ?_;intro nq hnq hltq;have hlq:=hltq _ _ (Hp.get_eq _ _ _);clear hltq;try refine zU ?_)|(refine LS.nilQ ?_;try with_reducible intro nq hnq;try refine zU ?_))
      refine CS.iter i (fun k => [(10, i64 k), (9, i64 j), (8, i64 x), (2, ptr n 0), (3, ptr (n + 1) 0), (5, ptr n3 0)]) (fun _ => (n3, ⟨512, bys (rowsTo (fun _ => 0) (legs h.p h.m h.c S) (8 * i)), 33⟩) :: (n + 1, ⟨64, bys S, 31⟩) :: (n, ⟨1106, K, 35⟩) :: H)
        (fun k => Bx (∀ k' : Nat, k' < k → bil h.p S (leg h.p h.m h.c S x j) (bas k') = bil h.p S (bas x) (leg h.p h.m h.c S j k'))) (by (repeat first | exact trivial | refine And.intro rfl ?_)) (by exact zD) ⟨fun _ h => by omega⟩ ?_
      intro k n7 hk hn7 hJ3
      (repeat first|refine zG ?_|(refine LS.nilO ?_;intro nq hnq hltq;try refine zU ?_)|(refine MS.new ?_;intro bq hbq hbqf;try refine zU ?_)|(refine MS.nil ?_;intro nq hnq hltq;have hlq:=hltq _ _ (Hp.get_eq _ _ _);clear hltq;try refine zU ?_)|(refine LS.nilQ ?_;try with_reducible intro nq hnq;try refine zU ?_))
      refine zI ?_ ?_<;>intro h5
      · have hr : ∀ q, q < 8 → (bys (rowsTo (fun _ => 0) (legs h.p h.m h.c S) (8 * i))) (64 * x + 8 * j + q) = .int .u8 (leg h.p h.m h.c S x j q) := fun q hq => by
          simp only [bys, rowsTo]; rw [if_pos (by omega), legs_at _ _ _ _ _ _ _ (by omega) hq]
        have hr2 : ∀ q, q < 8 → (bys (rowsTo (fun _ => 0) (legs h.p h.m h.c S) (8 * i))) (64 * j + 8 * k + q) = .int .u8 (leg h.p h.m h.c S j k q) := fun q hq => by
          simp only [bys, rowsTo]; rw [if_pos (by omega), legs_at _ _ _ _ _ _ _ (by omega) hq]
        (repeat first|refine zG ?_|(refine LS.nilO ?_;intro nq hnq hltq;try refine zU ?_)|(refine MS.new ?_;intro bq hbq hbqf;try refine zU ?_)|(refine MS.nil ?_;intro nq hnq hltq;have hlq:=hltq _ _ (Hp.get_eq _ _ _);clear hltq;try refine zU ?_)|(refine LS.nilQ ?_;try with_reducible intro nq hnq;try refine zU ?_))
        refine CS.quietLo ?_
        (repeat first|refine zG ?_|(refine LS.nilO ?_;intro nq hnq hltq;try refine zU ?_)|(refine MS.new ?_;intro bq hbq hbqf;try refine zU ?_)|(refine MS.nil ?_;intro nq hnq hltq;have hlq:=hltq _ _ (Hp.get_eq _ _ _);clear hltq;try refine zU ?_)|(refine LS.nilQ ?_;try with_reducible intro nq hnq;try refine zU ?_))
        refine LS.callQ (.arr 8 (bys (bas k))) rfl (fun n' hn' => spec_l01Basis k _ _ (by omega)) ?_
        (repeat first|refine zG ?_|(refine LS.nilO ?_;intro nq hnq hltq;try refine zU ?_)|(refine MS.new ?_;intro bq hbq hbqf;try refine zU ?_)|(refine MS.nil ?_;intro nq hnq hltq;have hlq:=hltq _ _ (Hp.get_eq _ _ _);clear hltq;try refine zU ?_)|(refine LS.nilQ ?_;try with_reducible intro nq hnq;try refine zU ?_))
        obtain ⟨x1, hx1⟩ : ∃ y, y = bil h.p S (leg h.p h.m h.c S x j) (bas k) := ⟨_, rfl⟩
        obtain ⟨x2, hx2⟩ : ∃ y, y = bil h.p S (bas x) (leg h.p h.m h.c S j k) := ⟨_, rfl⟩
        refine LS.callQ (i64 x1) rfl (fun n' hn' => by rw [hx1]; exact spec_l10Value h i S (leg h.p h.m h.c S x j) (bas k) K _ _ hS hK hSb hz ((lg_res hp.1 _ _ _ _ _ _ _ 8).by hp.2) (bas_by _ _)) ?_
        (repeat first|refine zG ?_|(refine LS.nilO ?_;intro nq hnq hltq;try refine zU ?_)|(refine MS.new ?_;intro bq hbq hbqf;try refine zU ?_)|(refine MS.nil ?_;intro nq hnq hltq;have hlq:=hltq _ _ (Hp.get_eq _ _ _);clear hltq;try refine zU ?_)|(refine LS.nilQ ?_;try with_reducible intro nq hnq;try refine zU ?_))
        refine LS.callQ (.arr 8 (bys (bas x))) rfl (fun n' hn' => spec_l01Basis x _ _ (by omega)) ?_
        (repeat first|refine zG ?_|(refine LS.nilO ?_;intro nq hnq hltq;try refine zU ?_)|(refine MS.new ?_;intro bq hbq hbqf;try refine zU ?_)|(refine MS.nil ?_;intro nq hnq hltq;have hlq:=hltq _ _ (Hp.get_eq _ _ _);clear hltq;try refine zU ?_)|(refine LS.nilQ ?_;try with_reducible intro nq hnq;try refine zU ?_))
        refine LS.callQ (i64 x2) rfl (fun n' hn' => by rw [hx2]; exact spec_l10Value h i S (bas x) (leg h.p h.m h.c S j k) K _ _ hS hK hSb hz (bas_by _ _) ((lg_res hp.1 _ _ _ _ _ _ _ 8).by hp.2)) ?_
        (repeat first|refine zG ?_|(refine LS.nilO ?_;intro nq hnq hltq;try refine zU ?_)|(refine MS.new ?_;intro bq hbq hbqf;try refine zU ?_)|(refine MS.nil ?_;intro nq hnq hltq;have hlq:=hltq _ _ (Hp.get_eq _ _ _);clear hltq;try refine zU ?_)|(refine LS.nilQ ?_;try with_reducible intro nq hnq;try refine zU ?_))
        refine zI ?_ ?_<;>intro h6
        · (repeat first|refine zG ?_|(refine LS.nilO ?_;intro nq hnq hltq;try refine zU ?_)|(refine MS.new ?_;intro bq hbq hbqf;try refine zU ?_)|(refine MS.nil ?_;intro nq hnq hltq;have hlq:=hltq _ _ (Hp.get_eq _ _ _);clear hltq;try refine zU ?_)|(refine LS.nilQ ?_;try with_reducible intro nq hnq;try refine zU ?_))
          exact ⟨_, H, rfl, by exact zD, by rw [tb_false (fun q => h6 (by rw [hx1, hx2]; exact q.2 x j k (by omega) (by omega) (by omega)))], rfl⟩
        · (repeat first|refine zG ?_|(refine LS.nilO ?_;intro nq hnq hltq;try refine zU ?_)|(refine MS.new ?_;intro bq hbq hbqf;try refine zU ?_)|(refine MS.nil ?_;intro nq hnq hltq;have hlq:=hltq _ _ (Hp.get_eq _ _ _);clear hltq;try refine zU ?_)|(refine LS.nilQ ?_;try with_reducible intro nq hnq;try refine zU ?_))
          refine ⟨by omega, by (repeat first | exact trivial | refine And.intro rfl ?_), by exact zD, ⟨fun k' hk' => ?_⟩⟩
          by_cases e : k' = k
          · subst e; rw [← hx1, ← hx2]; exact h6
          · exact hJ3.1 k' (by omega)
      · have : k = i := by omega
        subst this
        (repeat first|refine zG ?_|(refine LS.nilO ?_;intro nq hnq hltq;try refine zU ?_)|(refine MS.new ?_;intro bq hbq hbqf;try refine zU ?_)|(refine MS.nil ?_;intro nq hnq hltq;have hlq:=hltq _ _ (Hp.get_eq _ _ _);clear hltq;try refine zU ?_)|(refine LS.nilQ ?_;try with_reducible intro nq hnq;try refine zU ?_))
        refine ⟨by omega, by (repeat first | exact trivial | refine And.intro rfl ?_), by exact zD, ⟨fun j' k' hj' => ?_⟩⟩
        by_cases e : j' = j
        · subst e; exact fun hk' => hJ3.1 k' hk'
        · exact hJ2.1 j' k' (by omega)
    · have : j = i := by omega
      subst this
      (repeat first|refine zG ?_|(refine LS.nilO ?_;intro nq hnq hltq;try refine zU ?_)|(refine MS.new ?_;intro bq hbq hbqf;try refine zU ?_)|(refine MS.nil ?_;intro nq hnq hltq;have hlq:=hltq _ _ (Hp.get_eq _ _ _);clear hltq;try refine zU ?_)|(refine LS.nilQ ?_;try with_reducible intro nq hnq;try refine zU ?_))
      refine ⟨by omega, by (repeat first | exact trivial | refine And.intro rfl ?_), by exact zD, ⟨fun i' j' k' hi' => ?_⟩⟩
      by_cases e : i' = x
      · subst e; exact fun hj' hk' => hJ2.1 j' k' hj' hk'
      · exact hJ.1 i' j' k' (by omega)
  · have : x = i := by omega
    subst this
    (repeat first|refine zG ?_|(refine LS.nilO ?_;intro nq hnq hltq;try refine zU ?_)|(refine MS.new ?_;intro bq hbq hbqf;try refine zU ?_)|(refine MS.nil ?_;intro nq hnq hltq;have hlq:=hltq _ _ (Hp.get_eq _ _ _);clear hltq;try refine zU ?_)|(refine LS.nilQ ?_;try with_reducible intro nq hnq;try refine zU ?_))
    exact ⟨_, H, rfl, by exact zD, by rw [tb_true (show normed h x S ∧ cocyc h.p h.m h.c S x from ⟨h1, hJ.1⟩)], rfl⟩
/-- laws.eqAlgebra -/
def ir14 : Cd := (.seq (.reg [⟨some 2,none,.box 40 (.t 0)⟩,⟨some 3,none,.box 40 (.t 1)⟩,⟨some 4,none,.mov (.c (.bool false))⟩]) (.seq (.seq (.reg [⟨some 5,none,.fa 0 (.t 2)⟩,⟨some 6,none,.ld none (.t 5)⟩,⟨some 7,none,.fa 0 (.t 3)⟩,⟨some 8,none,.ld none (.t 7)⟩,⟨some 9,none,.bin .neq (.t 6) (.t 8)⟩]) (.cond (.t 9) (.seq (.reg [⟨some 4,none,.mov (.c (.bool false))⟩]) .ret) .skip)) (.seq (.seq (.reg [⟨some 10,none,.fa 1 (.t 2)⟩,⟨some 11,none,.ld none (.t 10)⟩,⟨some 12,none,.fa 1 (.t 3)⟩,⟨some 13,none,.ld none (.t 12)⟩,⟨some 14,none,.bin .neq (.t 11) (.t 13)⟩]) (.cond (.t 14) (.seq (.reg [⟨some 4,none,.mov (.c (.bool false))⟩]) .ret) .skip)) (.seq (.seq (.reg [⟨some 15,none,.fa 2 (.t 2)⟩,⟨some 16,none,.ld (some 8) (.t 15)⟩,⟨some 17,none,.fa 2 (.t 3)⟩,⟨some 18,none,.ld (some 8) (.t 17)⟩,⟨some 19,none,.call 33 [(.t 16),(.t 18)]⟩,⟨some 20,none,.un .not (.t 19)⟩]) (.cond (.t 20) (.seq (.reg [⟨some 4,none,.mov (.c (.bool false))⟩]) .ret) .skip)) (.seq (.seq (.reg [⟨some 21,none,.fa 10 (.t 2)⟩,⟨some 22,none,.ld (some 512) (.t 21)⟩,⟨some 23,none,.fa 10 (.t 3)⟩,⟨some 24,none,.ld (some 512) (.t 23)⟩,⟨some 25,none,.call 34 [(.t 22),(.t 24)]⟩,⟨some 26,none,.un .not (.t 25)⟩]) (.cond (.t 26) (.seq (.reg [⟨some 4,none,.mov (.c (.bool false))⟩]) .ret) .skip)) (.seq (.reg [⟨some 4,none,.mov (.c (.bool true))⟩]) .ret))))))
set_option maxRecDepth 100000 in
theorem tr14 : trFn Tryz.prog Tryz.f14 = some (27, ir14, [.tmp 4]) := by kernel_rfl
theorem laws_eqAlgebra (p n' : Int) (u m : Nat → Int) (H : Hp) (n : Nat) :
    FnS Tryz.prog 14 [.arr 522 (algC p n' u m), .arr 522 (algC p n' u m)] H n (fun r H' _ => r = bl true ∧ H' = H) := by
  have a2 := algC_u p n' u m
  have a3 := algC_m p n' u m
  have a0 : algC p n' u m 0 = .int .i64 p := rfl
  have a1 : algC p n' u m 1 = .int .i64 n' := rfl
  refine FnS.of_body Tryz.func14 tr14 (by simp) (fun hf => ?_)
  dsimp only [argEnv]
  unfold ir14
  (repeat first|refine zG ?_|(refine LS.nilO ?_;intro nq hnq hltq;try refine zU ?_)|(refine MS.new ?_;intro bq hbq hbqf;try refine zU ?_)|(refine MS.nil ?_;intro nq hnq hltq;have hlq:=hltq _ _ (Hp.get_eq _ _ _);clear hltq;try refine zU ?_)|(refine LS.nilQ ?_;try with_reducible intro nq hnq;try refine zU ?_))
  simp only [bne_self_eq_false]
  (repeat first|refine zG ?_|(refine LS.nilO ?_;intro nq hnq hltq;try refine zU ?_)|(refine MS.new ?_;intro bq hbq hbqf;try refine zU ?_)|(refine MS.nil ?_;intro nq hnq hltq;have hlq:=hltq _ _ (Hp.get_eq _ _ _);clear hltq;try refine zU ?_)|(refine LS.nilQ ?_;try with_reducible intro nq hnq;try refine zU ?_))
  simp only [bne_self_eq_false]
  (repeat first|refine zG ?_|(refine LS.nilO ?_;intro nq hnq hltq;try refine zU ?_)|(refine MS.new ?_;intro bq hbq hbqf;try refine zU ?_)|(refine MS.nil ?_;intro nq hnq hltq;have hlq:=hltq _ _ (Hp.get_eq _ _ _);clear hltq;try refine zU ?_)|(refine LS.nilQ ?_;try with_reducible intro nq hnq;try refine zU ?_))
  refine RS.call rfl ((laws_eqVector u u _ _).mono ?_)
  rintro r H' n2 hn2 ⟨rfl, rfl⟩
  rw [tb_true (fun _ _ => rfl)]
  (repeat first|refine zG ?_|(refine LS.nilO ?_;intro nq hnq hltq;try refine zU ?_)|(refine MS.new ?_;intro bq hbq hbqf;try refine zU ?_)|(refine MS.nil ?_;intro nq hnq hltq;have hlq:=hltq _ _ (Hp.get_eq _ _ _);clear hltq;try refine zU ?_)|(refine LS.nilQ ?_;try with_reducible intro nq hnq;try refine zU ?_))
  refine RS.call rfl ((laws_eqTable m m _ _).mono ?_)
  rintro r H' n3 hn3 ⟨rfl, rfl⟩
  rw [tb_true (fun _ _ => rfl)]
  (repeat first|refine zG ?_|(refine LS.nilO ?_;intro nq hnq hltq;try refine zU ?_)|(refine MS.new ?_;intro bq hbq hbqf;try refine zU ?_)|(refine MS.nil ?_;intro nq hnq hltq;have hlq:=hltq _ _ (Hp.get_eq _ _ _);clear hltq;try refine zU ?_)|(refine LS.nilQ ?_;try with_reducible intro nq hnq;try refine zU ?_))
  exact ⟨_, H, rfl, by exact zD, rfl, rfl⟩
end Go.Proofs.YtbknndbfbebkdaaGreatR
