/- Algebras that are drawn. -/
import Derived.Test.YtgnphaopeplfbaaGreatDoorJas
import Derived.Test.YtgnphaopeplfbaaGreatDoorJal
import Derived.Test.YtgnphaopeplfbaaGreatDoorJar
set_option linter.unusedSectionVars false
set_option linter.unusedVariables false
set_option linter.unusedSimpArgs false

namespace Go.V

set_option linter.unusedSimpArgs false

set_option linter.unusedVariables false

/-- The cells of an algebra with bytes. -/
def ALB (K : Nat → SV) (p n : Int) : Prop := K 0 = .int .i64 p ∧ K 1 = .int .i64 n ∧ ∀ q, q < 520 → ∃ x, K (2 + q) = .int .u8 x ∧ 0 ≤ x ∧ x ≤ 255

theorem ALB.put {K : Nat → SV} {p n x : Int} {j : Nat} (h : ALB K p n) (hj : 2 ≤ j) (hx : 0 ≤ x ∧ x ≤ 255) : ALB (put1 K j (.int .u8 x)) p n := by
  obtain ⟨h0, h1, h2⟩ := h
  refine ⟨by unfold put1; rw [if_neg (by omega)]; exact h0, by unfold put1; rw [if_neg (by omega)]; exact h1, fun q hq => ?_⟩
  unfold put1
  by_cases e : 2 + q = j
  · rw [if_pos e]; exact ⟨x, rfl, hx⟩
  · rw [if_neg e]; exact h2 q hq

def cu8 : SV → Int
  | .int _ x => x
  | _ => 0

theorem ALB.u {K : Nat → SV} {p n : Int} (h : ALB K p n) : ∀ q, q < 8 → K (2 + q) = .int .u8 ((fun q => cu8 (K (2 + q))) q) := fun q hq => by
  obtain ⟨x, e, -⟩ := h.2.2 q (by omega)
  (try dsimp only); rw [e]; rfl

theorem ALB.m {K : Nat → SV} {p n : Int} (h : ALB K p n) : ∀ q, q < 512 → K (10 + q) = .int .u8 ((fun q => cu8 (K (10 + q))) q) := fun q hq => by
  obtain ⟨x, e, -⟩ := h.2.2 (8 + q) (by omega)
  rw [show 2 + (8 + q) = 10 + q by omega] at e
  (try dsimp only); rw [e]; rfl

theorem ALB.uB {K : Nat → SV} {p n : Int} (h : ALB K p n) : isBy 8 (fun q => cu8 (K (2 + q))) := fun q hq => by
  obtain ⟨x, e, hx⟩ := h.2.2 q (by omega)
  (try dsimp only); rw [e]; exact hx

theorem ALB.mB {K : Nat → SV} {p n : Int} (h : ALB K p n) : isBy 512 (fun q => cu8 (K (10 + q))) := fun q hq => by
  obtain ⟨x, e, hx⟩ := h.2.2 (8 + q) (by omega)
  rw [show 2 + (8 + q) = 10 + q by omega] at e
  (try dsimp only); rw [e]; exact hx

theorem ALB.zero (p n : Int) : ALB (put1 (put1 (Zs.c [(2, SV.int .i64 0), (520, SV.int .u8 0)]) 0 (.int .i64 p)) 1 (.int .i64 n)) p n := by
  refine ⟨rfl, rfl, fun q hq => ⟨0, ?_, by omega, by omega⟩⟩
  unfold put1
  rw [if_neg (by omega), if_neg (by omega)]
  simp only [Zs.c]
  rw [if_neg (by omega)]

end Go.V

namespace Go.Proofs.YtgnphaopeplfbaaGreatDoor

open Go.V

variable [BW]

set_option linter.unusedSimpArgs false

set_option linter.unusedVariables false

set_option maxHeartbeats 4000000

/-- spec.l01Cyclic -/
def ir82 : Cd := (.seq (.reg [⟨some 4,none,.new 31 [(2,(.int .i64 0)),(520,(.int .u8 0))]⟩]) (.seq (.reg [⟨some 8,none,.mov (.t 0)⟩,⟨some 9,none,.mov (.t 1)⟩,⟨some 10,none,.build 522 [(2,(.int .i64 0)),(520,(.int .u8 0))] [(0,1,(.t 8)),(1,1,(.t 9))]⟩,⟨some 5,none,.new 31 [(2,(.int .i64 0)),(520,(.int .u8 0))]⟩,⟨none,none,.st 522 (.t 5) (.t 10)⟩]) (.seq (.reg [⟨some 11,none,.fa 2 (.t 5)⟩,⟨some 12,none,.ia 8 1 (.t 11) (.c (.int .i64 0))⟩,⟨none,none,.st 1 (.t 12) (.c (.int .u8 1))⟩]) (.seq (.seq (.reg [⟨some 6,none,.mov (.c (.int .i64 0))⟩]) (.block 0 (.loop (.seq (.seq (.reg [⟨some 13,none,.mov (.t 6)⟩,⟨some 14,none,.mov (.t 1)⟩,⟨some 15,none,.bin .lss (.t 13) (.t 14)⟩]) (.cond (.t 15) .skip (.exit 0))) (.seq (.block 1 (.seq (.reg [⟨some 7,none,.mov (.c (.int .i64 0))⟩]) (.block 2 (.loop (.seq (.seq (.reg [⟨some 18,none,.mov (.t 7)⟩,⟨some 19,none,.mov (.t 1)⟩,⟨some 20,none,.bin .lss (.t 18) (.t 19)⟩]) (.cond (.t 20) .skip (.exit 2))) (.seq (.block 3 (.drw true [11] [⟨some 23,none,.mov (.t 6)⟩,⟨some 24,none,.mov (.t 7)⟩,⟨some 25,none,.mov (.t 6)⟩,⟨some 26,none,.mov (.t 7)⟩,⟨some 27,none,.bin .add (.t 25) (.t 26)⟩,⟨some 28,none,.mov (.t 1)⟩,⟨some 29,none,.bin .rem (.t 27) (.t 28)⟩,⟨some 30,none,.fa 10 (.t 5)⟩,⟨some 31,none,.ia 8 64 (.t 30) (.t 23)⟩,⟨some 32,none,.ia 8 8 (.t 31) (.t 24)⟩,⟨some 33,none,.ia 8 1 (.t 32) (.t 29)⟩,⟨none,none,.st 1 (.t 33) (.c (.int .u8 1))⟩])) (.reg [⟨some 21,none,.mov (.t 7)⟩,⟨some 22,none,.bin .add (.t 21) (.c (.int .i64 1))⟩,⟨some 7,none,.mov (.t 22)⟩]))))))) (.reg [⟨some 16,none,.mov (.t 6)⟩,⟨some 17,none,.bin .add (.t 16) (.c (.int .i64 1))⟩,⟨some 6,none,.mov (.t 17)⟩])))))) (.seq (.reg [⟨some 34,none,.ld (some 522) (.t 5)⟩,⟨none,none,.st 522 (.t 4) (.t 34)⟩]) .ret)))))

set_option maxRecDepth 100000 in
theorem tr82 : trFn Tryz.prog Tryz.f82 = some (35, ir82, [.cell (some 522) 4]) := by kernel_rfl

theorem spec_l01Cyclic (p : Int) (a : Nat) (H : Hp) (n : Nat) (ha1 : 1 ≤ a) (ha : a ≤ 8) :
    FnS Tryz.prog 82 [i64 p, i64 a] H n (fun r H' _ => ∃ K, r = .arr 522 K ∧ ALB K p a ∧ H' = H) := by
  refine FnS.of_body Tryz.func82 tr82 (by simp) (fun hf => ?_)
  dsimp only [argEnv]
  unfold ir82
  (repeat first|refine zG ?_|(refine LS.nilO ?_;intro nq hnq hltq;try refine zU ?_)|(refine MS.new ?_;intro bq hbq hbqf;try refine zU ?_)|(refine MS.nil ?_;intro nq hnq hltq;have hlq:=hltq _ _ (Hp.get_eq _ _ _);clear hltq;try refine zU ?_)|(refine LS.nilQ ?_;try with_reducible intro nq hnq;try refine zU ?_))
  refine CS.iterJ a (fun i => [(6, i64 (i : Nat)), (1, i64 (a : Nat)), (4, ptr n 0), (5, ptr (n + 1) 0)]) (fun i H1 _ => ∃ k5, H1.get (n + 1) = some k5 ∧ k5.size = 522 ∧ ALB k5.c p a ∧ (∃ k4, H1.get n = some k4 ∧ k4.size = 522) ∧ (∀ x, x < n → H1.get x = H.get x) ∧ ∀ x, n + 2 ≤ x → H1.get x = none) (by (repeat first | exact trivial | refine And.intro rfl ?_)) ⟨_, Hp.get_eq _ _ _, rfl, ?_, ⟨_, by exact zH, rfl⟩, fun x hx => by simp (disch := omega) only [Hp.get_ne], fun x hx => by simp (disch := omega) only [Hp.get_ne]; exact hf x (by omega)⟩ ?_
  · exact (ALB.zero p a).put (by omega) (by omega)
  rintro i n1 H1 hi hn1 ⟨k5, g5, s5, c5, ⟨k4, g4, s4⟩, lo1, hfr1⟩
  (repeat first|refine zG ?_|(refine LS.nilO ?_;intro nq hnq hltq;try refine zU ?_)|(refine MS.new ?_;intro bq hbq hbqf;try refine zU ?_)|(refine MS.nil ?_;intro nq hnq hltq;have hlq:=hltq _ _ (Hp.get_eq _ _ _);clear hltq;try refine zU ?_)|(refine LS.nilQ ?_;try with_reducible intro nq hnq;try refine zU ?_))
  refine zI ?_ ?_<;>intro h1
  · (repeat first|refine zG ?_|(refine LS.nilO ?_;intro nq hnq hltq;try refine zU ?_)|(refine MS.new ?_;intro bq hbq hbqf;try refine zU ?_)|(refine MS.nil ?_;intro nq hnq hltq;have hlq:=hltq _ _ (Hp.get_eq _ _ _);clear hltq;try refine zU ?_)|(refine LS.nilQ ?_;try with_reducible intro nq hnq;try refine zU ?_))
    refine CS.iterJ a (fun j => [(7, i64 (j : Nat)), (6, i64 (i : Nat)), (1, i64 (a : Nat)), (4, ptr n 0), (5, ptr (n + 1) 0)]) (fun j H1 _ => ∃ k5, H1.get (n + 1) = some k5 ∧ k5.size = 522 ∧ ALB k5.c p a ∧ (∃ k4, H1.get n = some k4 ∧ k4.size = 522) ∧ (∀ x, x < n → H1.get x = H.get x) ∧ ∀ x, n + 2 ≤ x → H1.get x = none) (by (repeat first | exact trivial | refine And.intro rfl ?_)) ⟨k5, g5, s5, c5, ⟨k4, g4, s4⟩, lo1, hfr1⟩ ?_
    clear g5 s5 c5 g4 s4 lo1 hfr1
    rintro j n2 H2 hj hn2 ⟨k5, g5, s5, c5, ⟨k4, g4, s4⟩, lo2, hfr2⟩
    (repeat first|refine zG ?_|(refine LS.nilO ?_;intro nq hnq hltq;try refine zU ?_)|(refine MS.new ?_;intro bq hbq hbqf;try refine zU ?_)|(refine MS.nil ?_;intro nq hnq hltq;have hlq:=hltq _ _ (Hp.get_eq _ _ _);clear hltq;try refine zU ?_)|(refine LS.nilQ ?_;try with_reducible intro nq hnq;try refine zU ?_))
    refine zI ?_ ?_<;>intro h2
    · have hi' : i < a := by omega
      have hj' : j < a := by omega
      have hr0 : 0 ≤ ((i : Int) + (j : Int)) % (a : Int) := Int.emod_nonneg _ (by omega)
      have hr1 : ((i : Int) + (j : Int)) % (a : Int) < a := Int.emod_lt_of_pos _ (by omega)
      obtain ⟨y, hy⟩ := Int.eq_ofNat_of_zero_le hr0
      have hy' : y < a := by omega
      (repeat first|refine zG ?_|(refine LS.nilO ?_;intro nq hnq hltq;try refine zU ?_)|(refine MS.new ?_;intro bq hbq hbqf;try refine zU ?_)|(refine MS.nil ?_;intro nq hnq hltq;have hlq:=hltq _ _ (Hp.get_eq _ _ _);clear hltq;try refine zU ?_)|(refine LS.nilQ ?_;try with_reducible intro nq hnq;try refine zU ?_))
      rw [hy]
      (repeat first|refine zG ?_|(refine LS.nilO ?_;intro nq hnq hltq;try refine zU ?_)|(refine MS.new ?_;intro bq hbq hbqf;try refine zU ?_)|(refine MS.nil ?_;intro nq hnq hltq;have hlq:=hltq _ _ (Hp.get_eq _ _ _);clear hltq;try refine zU ?_)|(refine LS.nilQ ?_;try with_reducible intro nq hnq;try refine zU ?_))
      exact ⟨by omega, by (repeat first | exact trivial | refine And.intro rfl ?_), _, Drops.refl _ _, _, Hp.get_set_self _ g5, s5, c5.put (by omega) (by omega), ⟨k4, by rw [Hp.get_set_other _ (by omega)]; exact g4, s4⟩, fun x hx => by rw [Hp.get_set_other _ (by omega)]; exact lo2 x hx, fun x hx => by rw [Hp.get_set_other _ (by omega)]; exact hfr2 x hx⟩
    · obtain rfl : j = a := by omega
      (repeat first|refine zG ?_|(refine LS.nilO ?_;intro nq hnq hltq;try refine zU ?_)|(refine MS.new ?_;intro bq hbq hbqf;try refine zU ?_)|(refine MS.nil ?_;intro nq hnq hltq;have hlq:=hltq _ _ (Hp.get_eq _ _ _);clear hltq;try refine zU ?_)|(refine LS.nilQ ?_;try with_reducible intro nq hnq;try refine zU ?_))
      exact ⟨by omega, by (repeat first | exact trivial | refine And.intro rfl ?_), H2, Drops.refl _ _, k5, g5, s5, c5, ⟨k4, g4, s4⟩, lo2, hfr2⟩
  · obtain rfl : i = a := by omega
    (repeat first|refine zG ?_|(refine LS.nilO ?_;intro nq hnq hltq;try refine zU ?_)|(refine MS.new ?_;intro bq hbq hbqf;try refine zU ?_)|(refine MS.nil ?_;intro nq hnq hltq;have hlq:=hltq _ _ (Hp.get_eq _ _ _);clear hltq;try refine zU ?_)|(refine LS.nilQ ?_;try with_reducible intro nq hnq;try refine zU ?_))
    exact ⟨.arr 522 k5.c, H, conc_arr (fun q hq => by rw [Nat.zero_add]; unfold splice; rw [if_pos (by omega), Nat.sub_zero]), Drops.low hf (fun x hx => by rw [Hp.get_set_other _ (by omega)]; exact lo1 x hx), _, rfl, c5, rfl⟩

/-- spec.l01Powers -/
def ir83 : Cd := (.seq (.reg [⟨some 8,none,.new 31 [(2,(.int .i64 0)),(520,(.int .u8 0))]⟩]) (.seq (.reg [⟨some 14,none,.mov (.t 0)⟩,⟨some 15,none,.mov (.t 1)⟩,⟨some 16,none,.build 522 [(2,(.int .i64 0)),(520,(.int .u8 0))] [(0,1,(.t 14)),(1,1,(.t 15))]⟩,⟨some 9,none,.new 31 [(2,(.int .i64 0)),(520,(.int .u8 0))]⟩,⟨none,none,.st 522 (.t 9) (.t 16)⟩]) (.seq (.reg [⟨some 17,none,.fa 2 (.t 9)⟩,⟨some 18,none,.ia 8 1 (.t 17) (.c (.int .i64 0))⟩,⟨none,none,.st 1 (.t 18) (.c (.int .u8 1))⟩]) (.seq (.seq (.reg [⟨some 10,none,.mov (.c (.int .i64 0))⟩]) (.block 0 (.loop (.seq (.seq (.reg [⟨some 19,none,.mov (.t 10)⟩,⟨some 20,none,.mov (.t 1)⟩,⟨some 21,none,.bin .lss (.t 19) (.t 20)⟩]) (.cond (.t 21) .skip (.exit 0))) (.seq (.block 1 (.seq (.reg [⟨some 11,none,.mov (.c (.int .i64 0))⟩]) (.block 2 (.loop (.seq (.seq (.reg [⟨some 24,none,.mov (.t 11)⟩,⟨some 25,none,.mov (.t 1)⟩,⟨some 26,none,.bin .lss (.t 24) (.t 25)⟩]) (.cond (.t 26) .skip (.exit 2))) (.seq (.block 3 (.seq (.reg [⟨some 29,none,.mov (.t 10)⟩,⟨some 30,none,.mov (.t 11)⟩,⟨some 31,none,.bin .add (.t 29) (.t 30)⟩,⟨some 12,none,.mov (.t 31)⟩,⟨some 13,none,.mov (.c (.int .i64 1))⟩]) (.seq (.block 4 (.loop (.seq (.seq (.reg [⟨some 32,none,.mov (.t 12)⟩,⟨some 33,none,.mov (.t 1)⟩,⟨some 34,none,.bin .geq (.t 32) (.t 33)⟩]) (.cond (.t 34) .skip (.exit 4))) (.block 5 (.seq (.reg [⟨some 35,none,.mov (.t 12)⟩,⟨some 36,none,.mov (.t 1)⟩,⟨some 37,none,.bin .sub (.t 35) (.t 36)⟩,⟨some 38,none,.mov (.t 3)⟩,⟨some 39,none,.bin .add (.t 37) (.t 38)⟩,⟨some 12,none,.mov (.t 39)⟩]) (.reg [⟨some 40,none,.mov (.t 13)⟩,⟨some 41,none,.mov (.t 2)⟩,⟨some 42,none,.bin .mul (.t 40) (.t 41)⟩,⟨some 43,none,.mov (.t 0)⟩,⟨some 44,none,.bin .rem (.t 42) (.t 43)⟩,⟨some 13,none,.mov (.t 44)⟩])))))) (.reg [⟨some 45,none,.mov (.t 10)⟩,⟨some 46,none,.mov (.t 11)⟩,⟨some 47,none,.mov (.t 12)⟩,⟨some 48,none,.mov (.t 13)⟩,⟨some 49,none,.cv .u8 (.t 48)⟩,⟨some 50,none,.fa 10 (.t 9)⟩,⟨some 51,none,.ia 8 64 (.t 50) (.t 45)⟩,⟨some 52,none,.ia 8 8 (.t 51) (.t 46)⟩,⟨some 53,none,.ia 8 1 (.t 52) (.t 47)⟩,⟨none,none,.st 1 (.t 53) (.t 49)⟩])))) (.reg [⟨some 27,none,.mov (.t 11)⟩,⟨some 28,none,.bin .add (.t 27) (.c (.int .i64 1))⟩,⟨some 11,none,.mov (.t 28)⟩]))))))) (.reg [⟨some 22,none,.mov (.t 10)⟩,⟨some 23,none,.bin .add (.t 22) (.c (.int .i64 1))⟩,⟨some 10,none,.mov (.t 23)⟩])))))) (.seq (.reg [⟨some 54,none,.ld (some 522) (.t 9)⟩,⟨none,none,.st 522 (.t 8) (.t 54)⟩]) .ret)))))

set_option maxRecDepth 100000 in
theorem tr83 : trFn Tryz.prog Tryz.f83 = some (55, ir83, [.cell (some 522) 8]) := by kernel_rfl

theorem spec_l01Powers (p : Int) (a : Nat) (k to : Int) (H : Hp) (n : Nat) (hp : 2 ≤ p ∧ p ≤ 31) (ha1 : 1 ≤ a) (ha : a ≤ 8) (hk : 0 ≤ k ∧ k < p) (hto : 0 ≤ to ∧ to < a) :
    FnS Tryz.prog 83 [i64 p, i64 a, i64 k, i64 to] H n (fun r H' _ => ∃ K, r = .arr 522 K ∧ ALB K p a ∧ H' = H) := by
  refine FnS.of_body Tryz.func83 tr83 (by simp) (fun hf => ?_)
  dsimp only [argEnv]
  unfold ir83
  (repeat first|refine zG ?_|(refine LS.nilO ?_;intro nq hnq hltq;try refine zU ?_)|(refine MS.new ?_;intro bq hbq hbqf;try refine zU ?_)|(refine MS.nil ?_;intro nq hnq hltq;have hlq:=hltq _ _ (Hp.get_eq _ _ _);clear hltq;try refine zU ?_)|(refine LS.nilQ ?_;try with_reducible intro nq hnq;try refine zU ?_))
  refine CS.iterJ a (fun i => [(10, i64 (i : Nat)), (0, i64 p), (1, i64 (a : Nat)), (2, i64 k), (3, i64 to), (8, ptr n 0), (9, ptr (n + 1) 0)]) (fun i H1 _ => ∃ k5, H1.get (n + 1) = some k5 ∧ k5.size = 522 ∧ ALB k5.c p a ∧ (∃ k4, H1.get n = some k4 ∧ k4.size = 522) ∧ (∀ x, x < n → H1.get x = H.get x) ∧ ∀ x, n + 2 ≤ x → H1.get x = none) (by (repeat first | exact trivial | refine And.intro rfl ?_)) ⟨_, Hp.get_eq _ _ _, rfl, ?_, ⟨_, by exact zH, rfl⟩, fun x hx => by simp (disch := omega) only [Hp.get_ne], fun x hx => by simp (disch := omega) only [Hp.get_ne]; exact hf x (by omega)⟩ ?_
  · exact (ALB.zero p a).put (by omega) (by omega)
  rintro i n1 H1 hi hn1 ⟨k5, g5, s5, c5, ⟨k4, g4, s4⟩, lo1, hfr1⟩
  (repeat first|refine zG ?_|(refine LS.nilO ?_;intro nq hnq hltq;try refine zU ?_)|(refine MS.new ?_;intro bq hbq hbqf;try refine zU ?_)|(refine MS.nil ?_;intro nq hnq hltq;have hlq:=hltq _ _ (Hp.get_eq _ _ _);clear hltq;try refine zU ?_)|(refine LS.nilQ ?_;try with_reducible intro nq hnq;try refine zU ?_))
  refine zI ?_ ?_<;>intro h1
  · (repeat first|refine zG ?_|(refine LS.nilO ?_;intro nq hnq hltq;try refine zU ?_)|(refine MS.new ?_;intro bq hbq hbqf;try refine zU ?_)|(refine MS.nil ?_;intro nq hnq hltq;have hlq:=hltq _ _ (Hp.get_eq _ _ _);clear hltq;try refine zU ?_)|(refine LS.nilQ ?_;try with_reducible intro nq hnq;try refine zU ?_))
    refine CS.iterJ a (fun j => [(11, i64 (j : Nat)), (10, i64 (i : Nat)), (0, i64 p), (1, i64 (a : Nat)), (2, i64 k), (3, i64 to), (8, ptr n 0), (9, ptr (n + 1) 0)]) (fun j H1 _ => ∃ k5, H1.get (n + 1) = some k5 ∧ k5.size = 522 ∧ ALB k5.c p a ∧ (∃ k4, H1.get n = some k4 ∧ k4.size = 522) ∧ (∀ x, x < n → H1.get x = H.get x) ∧ ∀ x, n + 2 ≤ x → H1.get x = none) (by (repeat first | exact trivial | refine And.intro rfl ?_)) ⟨k5, g5, s5, c5, ⟨k4, g4, s4⟩, lo1, hfr1⟩ ?_
    clear g5 s5 c5 g4 s4 lo1 hfr1
    rintro j n2 H2 hj hn2 ⟨k5, g5, s5, c5, ⟨k4, g4, s4⟩, lo2, hfr2⟩
    (repeat first|refine zG ?_|(refine LS.nilO ?_;intro nq hnq hltq;try refine zU ?_)|(refine MS.new ?_;intro bq hbq hbqf;try refine zU ?_)|(refine MS.nil ?_;intro nq hnq hltq;have hlq:=hltq _ _ (Hp.get_eq _ _ _);clear hltq;try refine zU ?_)|(refine LS.nilQ ?_;try with_reducible intro nq hnq;try refine zU ?_))
    refine zI ?_ ?_<;>intro h2
    · have hi' : i < a := by omega
      have hj' : j < a := by omega
      (repeat first|refine zG ?_|(refine LS.nilO ?_;intro nq hnq hltq;try refine zU ?_)|(refine MS.new ?_;intro bq hbq hbqf;try refine zU ?_)|(refine MS.nil ?_;intro nq hnq hltq;have hlq:=hltq _ _ (Hp.get_eq _ _ _);clear hltq;try refine zU ?_)|(refine LS.nilQ ?_;try with_reducible intro nq hnq;try refine zU ?_))
      refine CS.weak (e1 := [(12, i64 (((i + j : Nat) : Int))), (13, i64 1), (11, i64 (j : Nat)), (10, i64 (i : Nat)), (0, i64 p), (1, i64 (a : Nat)), (2, i64 k), (3, i64 to), (8, ptr n 0), (9, ptr (n + 1) 0)]) (H1 := H2) (by (repeat first | exact trivial | refine And.intro rfl ?_)) (Drops.refl _ _) ?_
      refine CS.loop (fun kx en H3 n3 => ∃ (y : Nat) (g : Int), y = kx ∧ y ≤ 14 ∧ 0 ≤ g ∧ g < p ∧ en = [(12, i64 ((y : Nat) : Int)), (13, i64 g), (11, i64 (j : Nat)), (10, i64 (i : Nat)), (0, i64 p), (1, i64 (a : Nat)), (2, i64 k), (3, i64 to), (8, ptr n 0), (9, ptr (n + 1) 0)] ∧ H3 = H2) (i + j) ?_ ?_
      · exact ⟨i + j, 1, rfl, by omega, by omega, by omega, rfl, rfl⟩
      rintro kx en H3 n3 hn3 ⟨y, g, hky, hy14, hg0, hg1, rfl, rfl⟩
      subst hky
      (repeat first|refine zG ?_|(refine LS.nilO ?_;intro nq hnq hltq;try refine zU ?_)|(refine MS.new ?_;intro bq hbq hbqf;try refine zU ?_)|(refine MS.nil ?_;intro nq hnq hltq;have hlq:=hltq _ _ (Hp.get_eq _ _ _);clear hltq;try refine zU ?_)|(refine LS.nilQ ?_;try with_reducible intro nq hnq;try refine zU ?_))
      refine zI ?_ ?_<;>intro h3
      · have hm0 : 0 ≤ g * k := Int.mul_nonneg hg0 hk.1
        have hm1 : g * k ≤ 31 * 31 := Int.le_trans (Int.mul_le_mul_of_nonneg_right (show g ≤ 31 by omega) hk.1) (Int.mul_le_mul_of_nonneg_left (show k ≤ 31 by omega) (by omega))
        have hz := Int.eq_ofNat_of_zero_le (show 0 ≤ (y : Int) - (a : Int) + to by omega)
        obtain ⟨z, hz⟩ := hz
        (repeat first|refine zG ?_|(refine LS.nilO ?_;intro nq hnq hltq;try refine zU ?_)|(refine MS.new ?_;intro bq hbq hbqf;try refine zU ?_)|(refine MS.nil ?_;intro nq hnq hltq;have hlq:=hltq _ _ (Hp.get_eq _ _ _);clear hltq;try refine zU ?_)|(refine LS.nilQ ?_;try with_reducible intro nq hnq;try refine zU ?_))
        exact ⟨z, [(12, i64 ((z : Nat) : Int)), (13, i64 (g * k % p)), (11, i64 (j : Nat)), (10, i64 (i : Nat)), (0, i64 p), (1, i64 (a : Nat)), (2, i64 k), (3, i64 to), (8, ptr n 0), (9, ptr (n + 1) 0)], _, by omega, by rw [← hz]; (repeat first | exact trivial | refine And.intro rfl ?_), Drops.refl _ _, z, g * k % p, rfl, by omega, Int.emod_nonneg _ (by omega), Int.emod_lt_of_pos _ (by omega), rfl, rfl⟩
      · have hy' : y < a := by omega
        (repeat first|refine zG ?_|(refine LS.nilO ?_;intro nq hnq hltq;try refine zU ?_)|(refine MS.new ?_;intro bq hbq hbqf;try refine zU ?_)|(refine MS.nil ?_;intro nq hnq hltq;have hlq:=hltq _ _ (Hp.get_eq _ _ _);clear hltq;try refine zU ?_)|(refine LS.nilQ ?_;try with_reducible intro nq hnq;try refine zU ?_))
        exact ⟨by omega, by (repeat first | exact trivial | refine And.intro rfl ?_), _, Drops.refl _ _, _, Hp.get_set_self _ g5, s5, c5.put (by omega) (by omega), ⟨k4, by rw [Hp.get_set_other _ (by omega)]; exact g4, s4⟩, fun x hx => by rw [Hp.get_set_other _ (by omega)]; exact lo2 x hx, fun x hx => by rw [Hp.get_set_other _ (by omega)]; exact hfr2 x hx⟩
    · obtain rfl : j = a := by omega
      (repeat first|refine zG ?_|(refine LS.nilO ?_;intro nq hnq hltq;try refine zU ?_)|(refine MS.new ?_;intro bq hbq hbqf;try refine zU ?_)|(refine MS.nil ?_;intro nq hnq hltq;have hlq:=hltq _ _ (Hp.get_eq _ _ _);clear hltq;try refine zU ?_)|(refine LS.nilQ ?_;try with_reducible intro nq hnq;try refine zU ?_))
      exact ⟨by omega, by (repeat first | exact trivial | refine And.intro rfl ?_), H2, Drops.refl _ _, k5, g5, s5, c5, ⟨k4, g4, s4⟩, lo2, hfr2⟩
  · obtain rfl : i = a := by omega
    (repeat first|refine zG ?_|(refine LS.nilO ?_;intro nq hnq hltq;try refine zU ?_)|(refine MS.new ?_;intro bq hbq hbqf;try refine zU ?_)|(refine MS.nil ?_;intro nq hnq hltq;have hlq:=hltq _ _ (Hp.get_eq _ _ _);clear hltq;try refine zU ?_)|(refine LS.nilQ ?_;try with_reducible intro nq hnq;try refine zU ?_))
    exact ⟨.arr 522 k5.c, H, conc_arr (fun q hq => by rw [Nat.zero_add]; unfold splice; rw [if_pos (by omega), Nat.sub_zero]), Drops.low hf (fun x hx => by rw [Hp.get_set_other _ (by omega)]; exact lo1 x hx), _, rfl, c5, rfl⟩

/-- spec.l01Matrices -/
def ir84 : Cd := (.seq (.reg [⟨some 2,none,.new 31 [(2,(.int .i64 0)),(520,(.int .u8 0))]⟩]) (.seq (.reg [⟨some 7,none,.mov (.t 0)⟩,⟨some 8,none,.build 522 [(2,(.int .i64 0)),(520,(.int .u8 0))] [(0,1,(.t 7)),(1,1,(.c (.int .i64 4)))]⟩,⟨some 3,none,.new 31 [(2,(.int .i64 0)),(520,(.int .u8 0))]⟩,⟨none,none,.st 522 (.t 3) (.t 8)⟩]) (.seq (.reg [⟨some 9,none,.fa 2 (.t 3)⟩,⟨some 10,none,.ia 8 1 (.t 9) (.c (.int .i64 0))⟩,⟨none,none,.st 1 (.t 10) (.c (.int .u8 1))⟩]) (.seq (.reg [⟨some 11,none,.fa 2 (.t 3)⟩,⟨some 12,none,.ia 8 1 (.t 11) (.c (.int .i64 3))⟩,⟨none,none,.st 1 (.t 12) (.c (.int .u8 1))⟩]) (.seq (.seq (.reg [⟨some 4,none,.mov (.c (.int .i64 0))⟩]) (.block 0 (.loop (.seq (.seq (.reg [⟨some 13,none,.mov (.t 4)⟩,⟨some 14,none,.bin .lss (.t 13) (.c (.int .i64 2))⟩]) (.cond (.t 14) .skip (.exit 0))) (.seq (.block 1 (.seq (.reg [⟨some 5,none,.mov (.c (.int .i64 0))⟩]) (.block 2 (.loop (.seq (.seq (.reg [⟨some 17,none,.mov (.t 5)⟩,⟨some 18,none,.bin .lss (.t 17) (.c (.int .i64 2))⟩]) (.cond (.t 18) .skip (.exit 2))) (.seq (.block 3 (.seq (.reg [⟨some 6,none,.mov (.c (.int .i64 0))⟩]) (.block 4 (.loop (.seq (.seq (.reg [⟨some 21,none,.mov (.t 6)⟩,⟨some 22,none,.bin .lss (.t 21) (.c (.int .i64 2))⟩]) (.cond (.t 22) .skip (.exit 4))) (.seq (.block 5 (.reg [⟨some 25,none,.mov (.t 4)⟩,⟨some 26,none,.bin .mul (.c (.int .i64 2)) (.t 25)⟩,⟨some 27,none,.mov (.t 5)⟩,⟨some 28,none,.bin .add (.t 26) (.t 27)⟩,⟨some 29,none,.mov (.t 5)⟩,⟨some 30,none,.bin .mul (.c (.int .i64 2)) (.t 29)⟩,⟨some 31,none,.mov (.t 6)⟩,⟨some 32,none,.bin .add (.t 30) (.t 31)⟩,⟨some 33,none,.mov (.t 4)⟩,⟨some 34,none,.bin .mul (.c (.int .i64 2)) (.t 33)⟩,⟨some 35,none,.mov (.t 6)⟩,⟨some 36,none,.bin .add (.t 34) (.t 35)⟩,⟨some 37,none,.fa 10 (.t 3)⟩,⟨some 38,none,.ia 8 64 (.t 37) (.t 28)⟩,⟨some 39,none,.ia 8 8 (.t 38) (.t 32)⟩,⟨some 40,none,.ia 8 1 (.t 39) (.t 36)⟩,⟨none,none,.st 1 (.t 40) (.c (.int .u8 1))⟩])) (.reg [⟨some 23,none,.mov (.t 6)⟩,⟨some 24,none,.bin .add (.t 23) (.c (.int .i64 1))⟩,⟨some 6,none,.mov (.t 24)⟩]))))))) (.reg [⟨some 19,none,.mov (.t 5)⟩,⟨some 20,none,.bin .add (.t 19) (.c (.int .i64 1))⟩,⟨some 5,none,.mov (.t 20)⟩]))))))) (.reg [⟨some 15,none,.mov (.t 4)⟩,⟨some 16,none,.bin .add (.t 15) (.c (.int .i64 1))⟩,⟨some 4,none,.mov (.t 16)⟩])))))) (.seq (.reg [⟨some 41,none,.ld (some 522) (.t 3)⟩,⟨none,none,.st 522 (.t 2) (.t 41)⟩]) .ret))))))

set_option maxRecDepth 100000 in
theorem tr84 : trFn Tryz.prog Tryz.f84 = some (42, ir84, [.cell (some 522) 2]) := by kernel_rfl

theorem spec_l01Matrices (p : Int) (H : Hp) (n : Nat) :
    FnS Tryz.prog 84 [i64 p] H n (fun r H' _ => ∃ K, r = .arr 522 K ∧ ALB K p 4 ∧ H' = H) := by
  refine FnS.of_body Tryz.func84 tr84 (by simp) (fun hf => ?_)
  dsimp only [argEnv]
  unfold ir84
  (repeat first|refine zG ?_|(refine LS.nilO ?_;intro nq hnq hltq;try refine zU ?_)|(refine MS.new ?_;intro bq hbq hbqf;try refine zU ?_)|(refine MS.nil ?_;intro nq hnq hltq;have hlq:=hltq _ _ (Hp.get_eq _ _ _);clear hltq;try refine zU ?_)|(refine LS.nilQ ?_;try with_reducible intro nq hnq;try refine zU ?_))
  refine CS.iterJ 2 (fun i => [(4, i64 (i : Nat)), (2, ptr n 0), (3, ptr (n + 1) 0)]) (fun i H1 _ => ∃ k5, H1.get (n + 1) = some k5 ∧ k5.size = 522 ∧ ALB k5.c p 4 ∧ (∃ k4, H1.get n = some k4 ∧ k4.size = 522) ∧ (∀ x, x < n → H1.get x = H.get x) ∧ ∀ x, n + 2 ≤ x → H1.get x = none) (by (repeat first | exact trivial | refine And.intro rfl ?_)) ⟨_, Hp.get_eq _ _ _, rfl, ?_, ⟨_, by exact zH, rfl⟩, fun x hx => by simp (disch := omega) only [Hp.get_ne], fun x hx => by simp (disch := omega) only [Hp.get_ne]; exact hf x (by omega)⟩ ?_
  · exact ((ALB.zero p 4).put (by omega) (by omega)).put (by omega) (by omega)
  rintro i n1 H1 hi hn1 ⟨k5, g5, s5, c5, ⟨k4, g4, s4⟩, lo1, hfr1⟩
  (repeat first|refine zG ?_|(refine LS.nilO ?_;intro nq hnq hltq;try refine zU ?_)|(refine MS.new ?_;intro bq hbq hbqf;try refine zU ?_)|(refine MS.nil ?_;intro nq hnq hltq;have hlq:=hltq _ _ (Hp.get_eq _ _ _);clear hltq;try refine zU ?_)|(refine LS.nilQ ?_;try with_reducible intro nq hnq;try refine zU ?_))
  refine zI ?_ ?_<;>intro h1
  · (repeat first|refine zG ?_|(refine LS.nilO ?_;intro nq hnq hltq;try refine zU ?_)|(refine MS.new ?_;intro bq hbq hbqf;try refine zU ?_)|(refine MS.nil ?_;intro nq hnq hltq;have hlq:=hltq _ _ (Hp.get_eq _ _ _);clear hltq;try refine zU ?_)|(refine LS.nilQ ?_;try with_reducible intro nq hnq;try refine zU ?_))
    refine CS.iterJ 2 (fun j => [(5, i64 (j : Nat)), (4, i64 (i : Nat)), (2, ptr n 0), (3, ptr (n + 1) 0)]) (fun j H1 _ => ∃ k5, H1.get (n + 1) = some k5 ∧ k5.size = 522 ∧ ALB k5.c p 4 ∧ (∃ k4, H1.get n = some k4 ∧ k4.size = 522) ∧ (∀ x, x < n → H1.get x = H.get x) ∧ ∀ x, n + 2 ≤ x → H1.get x = none) (by (repeat first | exact trivial | refine And.intro rfl ?_)) ⟨k5, g5, s5, c5, ⟨k4, g4, s4⟩, lo1, hfr1⟩ ?_
    clear g5 s5 c5 g4 s4 lo1 hfr1
    rintro j n2 H2 hj hn2 ⟨k5, g5, s5, c5, ⟨k4, g4, s4⟩, lo2, hfr2⟩
    (repeat first|refine zG ?_|(refine LS.nilO ?_;intro nq hnq hltq;try refine zU ?_)|(refine MS.new ?_;intro bq hbq hbqf;try refine zU ?_)|(refine MS.nil ?_;intro nq hnq hltq;have hlq:=hltq _ _ (Hp.get_eq _ _ _);clear hltq;try refine zU ?_)|(refine LS.nilQ ?_;try with_reducible intro nq hnq;try refine zU ?_))
    refine zI ?_ ?_<;>intro h2
    · (repeat first|refine zG ?_|(refine LS.nilO ?_;intro nq hnq hltq;try refine zU ?_)|(refine MS.new ?_;intro bq hbq hbqf;try refine zU ?_)|(refine MS.nil ?_;intro nq hnq hltq;have hlq:=hltq _ _ (Hp.get_eq _ _ _);clear hltq;try refine zU ?_)|(refine LS.nilQ ?_;try with_reducible intro nq hnq;try refine zU ?_))
      refine CS.iterJ 2 (fun m => [(6, i64 (m : Nat)), (5, i64 (j : Nat)), (4, i64 (i : Nat)), (2, ptr n 0), (3, ptr (n + 1) 0)]) (fun m H1 _ => ∃ k5, H1.get (n + 1) = some k5 ∧ k5.size = 522 ∧ ALB k5.c p 4 ∧ (∃ k4, H1.get n = some k4 ∧ k4.size = 522) ∧ (∀ x, x < n → H1.get x = H.get x) ∧ ∀ x, n + 2 ≤ x → H1.get x = none) (by (repeat first | exact trivial | refine And.intro rfl ?_)) ⟨k5, g5, s5, c5, ⟨k4, g4, s4⟩, lo2, hfr2⟩ ?_
      clear g5 s5 c5 g4 s4 lo2 hfr2
      rintro m n3 H3 hm hn3 ⟨k5, g5, s5, c5, ⟨k4, g4, s4⟩, lo3, hfr3⟩
      (repeat first|refine zG ?_|(refine LS.nilO ?_;intro nq hnq hltq;try refine zU ?_)|(refine MS.new ?_;intro bq hbq hbqf;try refine zU ?_)|(refine MS.nil ?_;intro nq hnq hltq;have hlq:=hltq _ _ (Hp.get_eq _ _ _);clear hltq;try refine zU ?_)|(refine LS.nilQ ?_;try with_reducible intro nq hnq;try refine zU ?_))
      refine zI ?_ ?_<;>intro h3
      · have hi' : i < 2 := by omega
        have hj' : j < 2 := by omega
        have hm' : m < 2 := by omega
        (repeat first|refine zG ?_|(refine LS.nilO ?_;intro nq hnq hltq;try refine zU ?_)|(refine MS.new ?_;intro bq hbq hbqf;try refine zU ?_)|(refine MS.nil ?_;intro nq hnq hltq;have hlq:=hltq _ _ (Hp.get_eq _ _ _);clear hltq;try refine zU ?_)|(refine LS.nilQ ?_;try with_reducible intro nq hnq;try refine zU ?_))
        exact ⟨by omega, by (repeat first | exact trivial | refine And.intro rfl ?_), _, Drops.refl _ _, _, Hp.get_set_self _ g5, s5, c5.put (by omega) (by omega), ⟨k4, by rw [Hp.get_set_other _ (by omega)]; exact g4, s4⟩, fun x hx => by rw [Hp.get_set_other _ (by omega)]; exact lo3 x hx, fun x hx => by rw [Hp.get_set_other _ (by omega)]; exact hfr3 x hx⟩
      · obtain rfl : m = 2 := by omega
        (repeat first|refine zG ?_|(refine LS.nilO ?_;intro nq hnq hltq;try refine zU ?_)|(refine MS.new ?_;intro bq hbq hbqf;try refine zU ?_)|(refine MS.nil ?_;intro nq hnq hltq;have hlq:=hltq _ _ (Hp.get_eq _ _ _);clear hltq;try refine zU ?_)|(refine LS.nilQ ?_;try with_reducible intro nq hnq;try refine zU ?_))
        exact ⟨by omega, by (repeat first | exact trivial | refine And.intro rfl ?_), H3, Drops.refl _ _, k5, g5, s5, c5, ⟨k4, g4, s4⟩, lo3, hfr3⟩
    · obtain rfl : j = 2 := by omega
      (repeat first|refine zG ?_|(refine LS.nilO ?_;intro nq hnq hltq;try refine zU ?_)|(refine MS.new ?_;intro bq hbq hbqf;try refine zU ?_)|(refine MS.nil ?_;intro nq hnq hltq;have hlq:=hltq _ _ (Hp.get_eq _ _ _);clear hltq;try refine zU ?_)|(refine LS.nilQ ?_;try with_reducible intro nq hnq;try refine zU ?_))
      exact ⟨by omega, by (repeat first | exact trivial | refine And.intro rfl ?_), H2, Drops.refl _ _, k5, g5, s5, c5, ⟨k4, g4, s4⟩, lo2, hfr2⟩
  · obtain rfl : i = 2 := by omega
    (repeat first|refine zG ?_|(refine LS.nilO ?_;intro nq hnq hltq;try refine zU ?_)|(refine MS.new ?_;intro bq hbq hbqf;try refine zU ?_)|(refine MS.nil ?_;intro nq hnq hltq;have hlq:=hltq _ _ (Hp.get_eq _ _ _);clear hltq;try refine zU ?_)|(refine LS.nilQ ?_;try with_reducible intro nq hnq;try refine zU ?_))
    exact ⟨.arr 522 k5.c, H, conc_arr (fun q hq => by rw [Nat.zero_add]; unfold splice; rw [if_pos (by omega), Nat.sub_zero]), Drops.low hf (fun x hx => by rw [Hp.get_set_other _ (by omega)]; exact lo1 x hx), _, rfl, c5, rfl⟩

end Go.Proofs.YtgnphaopeplfbaaGreatDoor

/- Algebras that are drawn: sums, damage. -/

namespace Go.V

set_option linter.unusedSimpArgs false

set_option linter.unusedVariables false

theorem ALB.size {K : Nat → SV} {p n s : Int} (h : ALB K p n) : ALB (put1 K 1 (.int .i64 s)) p s :=
  ⟨by unfold put1; rw [if_neg (by omega)]; exact h.1, by unfold put1; rw [if_pos rfl], fun q hq => by unfold put1; rw [if_neg (by omega)]; exact h.2.2 q hq⟩

theorem ALB.prime {K : Nat → SV} {p n s : Int} (h : ALB K p n) : ALB (put1 K 0 (.int .i64 s)) s n :=
  ⟨by unfold put1; rw [if_pos rfl], by unfold put1; rw [if_neg (by omega)]; exact h.2.1, fun q hq => by unfold put1; rw [if_neg (by omega)]; exact h.2.2 q hq⟩

end Go.V

namespace Go.Proofs.YtgnphaopeplfbaaGreatDoor

open Go.V

variable [BW]

set_option linter.unusedSimpArgs false

set_option linter.unusedVariables false

set_option maxHeartbeats 4000000

/-- spec.ProductAlgebra -/
def ir85 : Cd := (.seq (.reg [⟨some 2,none,.box 31 (.t 0)⟩,⟨some 3,none,.box 31 (.t 1)⟩,⟨some 4,none,.new 31 [(2,(.int .i64 0)),(520,(.int .u8 0))]⟩,⟨some 5,none,.mov (.c (.int .i64 0))⟩]) (.seq (.block 0 (.seq (.reg [⟨some 11,none,.ld (some 522) (.t 2)⟩,⟨some 12,none,.call 58 [(.t 11)]⟩,⟨some 13,none,.un .not (.t 12)⟩,⟨some 14,none,.mov (.t 13)⟩,⟨some 15,(some (14,false)),.ld (some 522) (.t 3)⟩,⟨some 16,(some (14,false)),.call 58 [(.t 15)]⟩,⟨some 17,(some (14,false)),.un .not (.t 16)⟩,⟨some 18,none,.pick (.t 14) (.c (.bool true)) (.t 17)⟩,⟨some 10,none,.mov (.t 18)⟩]) (.cond (.t 10) (.seq (.reg [⟨some 19,none,.build 522 [(2,(.int .i64 0)),(520,(.int .u8 0))] []⟩,⟨none,none,.st 522 (.t 4) (.t 19)⟩,⟨some 5,none,.mov (.c (.int .i64 1))⟩]) .ret) (.seq (.reg [⟨some 21,none,.fa 0 (.t 2)⟩,⟨some 22,none,.ld none (.t 21)⟩,⟨some 23,none,.fa 0 (.t 3)⟩,⟨some 24,none,.ld none (.t 23)⟩,⟨some 25,none,.bin .neq (.t 22) (.t 24)⟩,⟨some 20,none,.mov (.t 25)⟩]) (.cond (.t 20) (.seq (.reg [⟨some 26,none,.build 522 [(2,(.int .i64 0)),(520,(.int .u8 0))] []⟩,⟨none,none,.st 522 (.t 4) (.t 26)⟩,⟨some 5,none,.mov (.c (.int .i64 2))⟩]) .ret) (.seq (.reg [⟨some 28,none,.fa 1 (.t 2)⟩,⟨some 29,none,.ld none (.t 28)⟩,⟨some 30,none,.fa 1 (.t 3)⟩,⟨some 31,none,.ld none (.t 30)⟩,⟨some 32,none,.bin .add (.t 29) (.t 31)⟩,⟨some 33,none,.bin .gtr (.t 32) (.c (.int .i64 8))⟩,⟨some 27,none,.mov (.t 33)⟩]) (.cond (.t 27) (.seq (.reg [⟨some 34,none,.build 522 [(2,(.int .i64 0)),(520,(.int .u8 0))] []⟩,⟨none,none,.st 522 (.t 4) (.t 34)⟩,⟨some 5,none,.mov (.c (.int .i64 3))⟩]) .ret) .skip))))))) (.seq (.reg [⟨some 35,none,.fa 1 (.t 2)⟩,⟨some 36,none,.ld none (.t 35)⟩,⟨some 6,none,.mov (.t 36)⟩]) (.seq (.seq (.reg [⟨some 7,none,.mov (.c (.int .i64 0))⟩]) (.block 1 (.loop (.seq (.seq (.reg [⟨some 37,none,.mov (.t 7)⟩,⟨some 38,none,.fa 1 (.t 3)⟩,⟨some 39,none,.ld none (.t 38)⟩,⟨some 40,none,.bin .lss (.t 37) (.t 39)⟩]) (.cond (.t 40) .skip (.exit 1))) (.seq (.block 2 (.seq (.reg [⟨some 43,none,.mov (.t 6)⟩,⟨some 44,none,.mov (.t 7)⟩,⟨some 45,none,.bin .add (.t 43) (.t 44)⟩,⟨some 46,none,.mov (.t 7)⟩,⟨some 47,none,.fa 2 (.t 3)⟩,⟨some 48,none,.ia 8 1 (.t 47) (.t 46)⟩,⟨some 49,none,.ld none (.t 48)⟩,⟨some 50,none,.fa 2 (.t 2)⟩,⟨some 51,none,.ia 8 1 (.t 50) (.t 45)⟩,⟨none,none,.st 1 (.t 51) (.t 49)⟩]) (.seq (.reg [⟨some 8,none,.mov (.c (.int .i64 0))⟩]) (.block 3 (.loop (.seq (.seq (.reg [⟨some 52,none,.mov (.t 8)⟩,⟨some 53,none,.fa 1 (.t 3)⟩,⟨some 54,none,.ld none (.t 53)⟩,⟨some 55,none,.bin .lss (.t 52) (.t 54)⟩]) (.cond (.t 55) .skip (.exit 3))) (.seq (.block 4 (.seq (.reg [⟨some 9,none,.mov (.c (.int .i64 0))⟩]) (.block 5 (.loop (.seq (.seq (.reg [⟨some 58,none,.mov (.t 9)⟩,⟨some 59,none,.fa 1 (.t 3)⟩,⟨some 60,none,.ld none (.t 59)⟩,⟨some 61,none,.bin .lss (.t 58) (.t 60)⟩]) (.cond (.t 61) .skip (.exit 5))) (.seq (.block 6 (.drw true [21] [⟨some 64,none,.mov (.t 6)⟩,⟨some 65,none,.mov (.t 7)⟩,⟨some 66,none,.bin .add (.t 64) (.t 65)⟩,⟨some 67,none,.mov (.t 6)⟩,⟨some 68,none,.mov (.t 8)⟩,⟨some 69,none,.bin .add (.t 67) (.t 68)⟩,⟨some 70,none,.mov (.t 6)⟩,⟨some 71,none,.mov (.t 9)⟩,⟨some 72,none,.bin .add (.t 70) (.t 71)⟩,⟨some 73,none,.mov (.t 7)⟩,⟨some 74,none,.mov (.t 8)⟩,⟨some 75,none,.mov (.t 9)⟩,⟨some 76,none,.fa 10 (.t 3)⟩,⟨some 77,none,.ia 8 64 (.t 76) (.t 73)⟩,⟨some 78,none,.ia 8 8 (.t 77) (.t 74)⟩,⟨some 79,none,.ia 8 1 (.t 78) (.t 75)⟩,⟨some 80,none,.ld none (.t 79)⟩,⟨some 81,none,.fa 10 (.t 2)⟩,⟨some 82,none,.ia 8 64 (.t 81) (.t 66)⟩,⟨some 83,none,.ia 8 8 (.t 82) (.t 69)⟩,⟨some 84,none,.ia 8 1 (.t 83) (.t 72)⟩,⟨none,none,.st 1 (.t 84) (.t 80)⟩])) (.reg [⟨some 62,none,.mov (.t 9)⟩,⟨some 63,none,.bin .add (.t 62) (.c (.int .i64 1))⟩,⟨some 9,none,.mov (.t 63)⟩]))))))) (.reg [⟨some 56,none,.mov (.t 8)⟩,⟨some 57,none,.bin .add (.t 56) (.c (.int .i64 1))⟩,⟨some 8,none,.mov (.t 57)⟩])))))))) (.reg [⟨some 41,none,.mov (.t 7)⟩,⟨some 42,none,.bin .add (.t 41) (.c (.int .i64 1))⟩,⟨some 7,none,.mov (.t 42)⟩])))))) (.seq (.reg [⟨some 85,none,.mov (.t 6)⟩,⟨some 86,none,.fa 1 (.t 3)⟩,⟨some 87,none,.ld none (.t 86)⟩,⟨some 88,none,.bin .add (.t 85) (.t 87)⟩,⟨some 89,none,.fa 1 (.t 2)⟩,⟨none,none,.st 1 (.t 89) (.t 88)⟩]) (.seq (.reg [⟨some 90,none,.ld (some 522) (.t 2)⟩,⟨none,none,.st 522 (.t 4) (.t 90)⟩,⟨some 5,none,.mov (.c (.int .i64 0))⟩]) .ret))))))

set_option maxRecDepth 100000 in
theorem tr85 : trFn Tryz.prog Tryz.f85 = some (91, ir85, [.cell (some 522) 4, .tmp 5]) := by kernel_rfl

theorem spec_ProductAlgebra (p : Int) (a a' : Nat) (K K' : Nat → SV) (H : Hp) (n : Nat) (ha1 : 1 ≤ a) (ha : a ≤ 8) (ha1' : 1 ≤ a') (ha' : a' ≤ 8) (hK : ALB K p a) (hK' : ALB K' p a') :
    FnS Tryz.prog 85 [.arr 522 K, .arr 522 K'] H n (fun r H' _ => ∃ K2 c, r = .tup [.arr 522 K2, i64 c] ∧ (c = 0 → ∃ s : Nat, 1 ≤ s ∧ s ≤ 8 ∧ ALB K2 p s) ∧ H' = H) := by
  have e0 := hK'.1
  have e1 := hK'.2.1
  have e2 := hK.1
  have e3 := hK.2.1
  have e1' : K' (0 + 1) = .int .i64 (a' : Nat) := e1
  have e3' : K (0 + 1) = .int .i64 (a : Nat) := e3
  refine FnS.of_body Tryz.func85 tr85 (by simp) (fun hf => ?_)
  dsimp only [argEnv]
  unfold ir85
  (repeat first|refine zG ?_|(refine LS.nilO ?_;intro nq hnq hltq;try refine zU ?_)|(refine MS.new ?_;intro bq hbq hbqf;try refine zU ?_)|(refine MS.nil ?_;intro nq hnq hltq;have hlq:=hltq _ _ (Hp.get_eq _ _ _);clear hltq;try refine zU ?_)|(refine LS.nilQ ?_;try with_reducible intro nq hnq;try refine zU ?_))
  refine RS.call rfl ((FnS.args (concs_cons (conc_arr (fun q hq => by first | rfl | (simp only [Nat.zero_add]; done) | (simp only [Nat.zero_add]; rfl))) rfl) (spec_l01Is p a _ _ K _ _ hK.1 hK.2.1 hK.u hK.m hK.uB hK.mB)).mono ?_)
  rintro r H' n2 hn2 ⟨rfl, rfl⟩
  by_cases hA : isAlg p a (fun q => cu8 (K (2 + q))) (fun q => cu8 (K (10 + q)))
  · rw [tb_true hA]
    (repeat first|refine zG ?_|(refine LS.nilO ?_;intro nq hnq hltq;try refine zU ?_)|(refine MS.new ?_;intro bq hbq hbqf;try refine zU ?_)|(refine MS.nil ?_;intro nq hnq hltq;have hlq:=hltq _ _ (Hp.get_eq _ _ _);clear hltq;try refine zU ?_)|(refine LS.nilQ ?_;try with_reducible intro nq hnq;try refine zU ?_))
    refine RS.call rfl ((FnS.args (concs_cons (conc_arr (fun q hq => by first | rfl | (simp only [Nat.zero_add]; done) | (simp only [Nat.zero_add]; rfl))) rfl) (spec_l01Is p a' _ _ K' _ _ hK'.1 hK'.2.1 hK'.u hK'.m hK'.uB hK'.mB)).mono ?_)
    rintro r H' n3 hn3 ⟨rfl, rfl⟩
    by_cases hA' : isAlg p a' (fun q => cu8 (K' (2 + q))) (fun q => cu8 (K' (10 + q)))
    · rw [tb_true hA']
      (repeat first|refine zG ?_|(refine LS.nilO ?_;intro nq hnq hltq;try refine zU ?_)|(refine MS.new ?_;intro bq hbq hbqf;try refine zU ?_)|(refine MS.nil ?_;intro nq hnq hltq;have hlq:=hltq _ _ (Hp.get_eq _ _ _);clear hltq;try refine zU ?_)|(refine LS.nilQ ?_;try with_reducible intro nq hnq;try refine zU ?_))
      (try simp only [bne_self_eq_false])
      (repeat first|refine zG ?_|(refine LS.nilO ?_;intro nq hnq hltq;try refine zU ?_)|(refine MS.new ?_;intro bq hbq hbqf;try refine zU ?_)|(refine MS.nil ?_;intro nq hnq hltq;have hlq:=hltq _ _ (Hp.get_eq _ _ _);clear hltq;try refine zU ?_)|(refine LS.nilQ ?_;try with_reducible intro nq hnq;try refine zU ?_))
      refine zI ?_ ?_<;>intro h1
      · (repeat first|refine zG ?_|(refine LS.nilO ?_;intro nq hnq hltq;try refine zU ?_)|(refine MS.new ?_;intro bq hbq hbqf;try refine zU ?_)|(refine MS.nil ?_;intro nq hnq hltq;have hlq:=hltq _ _ (Hp.get_eq _ _ _);clear hltq;try refine zU ?_)|(refine LS.nilQ ?_;try with_reducible intro nq hnq;try refine zU ?_))
        exact ⟨_, H, rfl, by exact zD, _, _, rfl, fun q => by omega, rfl⟩
      · (repeat first|refine zG ?_|(refine LS.nilO ?_;intro nq hnq hltq;try refine zU ?_)|(refine MS.new ?_;intro bq hbq hbqf;try refine zU ?_)|(refine MS.nil ?_;intro nq hnq hltq;have hlq:=hltq _ _ (Hp.get_eq _ _ _);clear hltq;try refine zU ?_)|(refine LS.nilQ ?_;try with_reducible intro nq hnq;try refine zU ?_))
        refine CS.iterJ a' (fun i => [(7, i64 (i : Nat)), (6, i64 (a : Nat)), (2, ptr n 0), (3, ptr (n + 1) 0), (4, ptr (n + 2) 0)]) (fun i H1 _ => ∃ k2 k4, H1.get n = some k2 ∧ k2.size = 522 ∧ ALB k2.c p a ∧ H1.get (n + 1) = some ⟨522, K', 31⟩ ∧ H1.get (n + 2) = some k4 ∧ k4.size = 522 ∧ ∀ x, x < n → H1.get x = H.get x) (by (repeat first | exact trivial | refine And.intro rfl ?_)) ⟨_, _, by exact zH, rfl, hK, by exact zH, by exact zH, rfl, fun x hx => by simp (disch := omega) only [Hp.get_ne]⟩ ?_
        rintro i n4 H1 hi hn4 ⟨k2, k4, g2, s2, c2, g3, g4, s4, lo1⟩
        (repeat first|refine zG ?_|(refine LS.nilO ?_;intro nq hnq hltq;try refine zU ?_)|(refine MS.new ?_;intro bq hbq hbqf;try refine zU ?_)|(refine MS.nil ?_;intro nq hnq hltq;have hlq:=hltq _ _ (Hp.get_eq _ _ _);clear hltq;try refine zU ?_)|(refine LS.nilQ ?_;try with_reducible intro nq hnq;try refine zU ?_))
        refine zI ?_ ?_<;>intro h2
        · have hi' : i < a' := by omega
          obtain ⟨x, ex, hx⟩ := hK'.2.2 i (by omega)
          (repeat first|refine zG ?_|(refine LS.nilO ?_;intro nq hnq hltq;try refine zU ?_)|(refine MS.new ?_;intro bq hbq hbqf;try refine zU ?_)|(refine MS.nil ?_;intro nq hnq hltq;have hlq:=hltq _ _ (Hp.get_eq _ _ _);clear hltq;try refine zU ?_)|(refine LS.nilQ ?_;try with_reducible intro nq hnq;try refine zU ?_))
          refine CS.iterJ a' (fun k => [(8, i64 (k : Nat)), (7, i64 (i : Nat)), (6, i64 (a : Nat)), (2, ptr n 0), (3, ptr (n + 1) 0), (4, ptr (n + 2) 0)]) (fun k H1 _ => ∃ k2 k4, H1.get n = some k2 ∧ k2.size = 522 ∧ ALB k2.c p a ∧ H1.get (n + 1) = some ⟨522, K', 31⟩ ∧ H1.get (n + 2) = some k4 ∧ k4.size = 522 ∧ ∀ x, x < n → H1.get x = H.get x) (by (repeat first | exact trivial | refine And.intro rfl ?_)) ⟨_, k4, Hp.get_set_self _ g2, s2, c2.put (by omega) hx, by rw [Hp.get_set_other _ (by omega)]; exact g3, by rw [Hp.get_set_other _ (by omega)]; exact g4, s4, fun x hx => by rw [Hp.get_set_other _ (by omega)]; exact lo1 x hx⟩ ?_
          clear g2 s2 c2 g3 g4 s4 lo1
          rintro k n5 H2 hk hn5 ⟨k2, k4, g2, s2, c2, g3, g4, s4, lo2⟩
          (repeat first|refine zG ?_|(refine LS.nilO ?_;intro nq hnq hltq;try refine zU ?_)|(refine MS.new ?_;intro bq hbq hbqf;try refine zU ?_)|(refine MS.nil ?_;intro nq hnq hltq;have hlq:=hltq _ _ (Hp.get_eq _ _ _);clear hltq;try refine zU ?_)|(refine LS.nilQ ?_;try with_reducible intro nq hnq;try refine zU ?_))
          refine zI ?_ ?_<;>intro h3
          · have hk' : k < a' := by omega
            (repeat first|refine zG ?_|(refine LS.nilO ?_;intro nq hnq hltq;try refine zU ?_)|(refine MS.new ?_;intro bq hbq hbqf;try refine zU ?_)|(refine MS.nil ?_;intro nq hnq hltq;have hlq:=hltq _ _ (Hp.get_eq _ _ _);clear hltq;try refine zU ?_)|(refine LS.nilQ ?_;try with_reducible intro nq hnq;try refine zU ?_))
            refine CS.iterJ a' (fun m => [(9, i64 (m : Nat)), (8, i64 (k : Nat)), (7, i64 (i : Nat)), (6, i64 (a : Nat)), (2, ptr n 0), (3, ptr (n + 1) 0), (4, ptr (n + 2) 0)]) (fun m H1 _ => ∃ k2 k4, H1.get n = some k2 ∧ k2.size = 522 ∧ ALB k2.c p a ∧ H1.get (n + 1) = some ⟨522, K', 31⟩ ∧ H1.get (n + 2) = some k4 ∧ k4.size = 522 ∧ ∀ x, x < n → H1.get x = H.get x) (by (repeat first | exact trivial | refine And.intro rfl ?_)) ⟨k2, k4, g2, s2, c2, g3, g4, s4, lo2⟩ ?_
            clear g2 s2 c2 g3 g4 s4 lo2
            rintro m n6 H3 hm hn6 ⟨k2, k4, g2, s2, c2, g3, g4, s4, lo3⟩
            (repeat first|refine zG ?_|(refine LS.nilO ?_;intro nq hnq hltq;try refine zU ?_)|(refine MS.new ?_;intro bq hbq hbqf;try refine zU ?_)|(refine MS.nil ?_;intro nq hnq hltq;have hlq:=hltq _ _ (Hp.get_eq _ _ _);clear hltq;try refine zU ?_)|(refine LS.nilQ ?_;try with_reducible intro nq hnq;try refine zU ?_))
            refine zI ?_ ?_<;>intro h4
            · have hm' : m < a' := by omega
              obtain ⟨y, ey, hy⟩ := hK'.2.2 (8 + (64 * i + 8 * k + m)) (by omega)
              have ey' : K' (10 + (64 * i + 8 * k + m)) = .int .u8 y := by rw [← ey]; congr 1; omega
              (repeat first|refine zG ?_|(refine LS.nilO ?_;intro nq hnq hltq;try refine zU ?_)|(refine MS.new ?_;intro bq hbq hbqf;try refine zU ?_)|(refine MS.nil ?_;intro nq hnq hltq;have hlq:=hltq _ _ (Hp.get_eq _ _ _);clear hltq;try refine zU ?_)|(refine LS.nilQ ?_;try with_reducible intro nq hnq;try refine zU ?_))
              exact ⟨by omega, by (repeat first | exact trivial | refine And.intro rfl ?_), _, Drops.refl _ _, _, k4, Hp.get_set_self _ g2, s2, c2.put (by omega) hy, by rw [Hp.get_set_other _ (by omega)]; exact g3, by rw [Hp.get_set_other _ (by omega)]; exact g4, s4, fun x hx => by rw [Hp.get_set_other _ (by omega)]; exact lo3 x hx⟩
            · obtain rfl : m = a' := by omega
              (repeat first|refine zG ?_|(refine LS.nilO ?_;intro nq hnq hltq;try refine zU ?_)|(refine MS.new ?_;intro bq hbq hbqf;try refine zU ?_)|(refine MS.nil ?_;intro nq hnq hltq;have hlq:=hltq _ _ (Hp.get_eq _ _ _);clear hltq;try refine zU ?_)|(refine LS.nilQ ?_;try with_reducible intro nq hnq;try refine zU ?_))
              exact ⟨by omega, by (repeat first | exact trivial | refine And.intro rfl ?_), H3, Drops.refl _ _, k2, k4, g2, s2, c2, g3, g4, s4, lo3⟩
          · obtain rfl : k = a' := by omega
            (repeat first|refine zG ?_|(refine LS.nilO ?_;intro nq hnq hltq;try refine zU ?_)|(refine MS.new ?_;intro bq hbq hbqf;try refine zU ?_)|(refine MS.nil ?_;intro nq hnq hltq;have hlq:=hltq _ _ (Hp.get_eq _ _ _);clear hltq;try refine zU ?_)|(refine LS.nilQ ?_;try with_reducible intro nq hnq;try refine zU ?_))
            exact ⟨by omega, by (repeat first | exact trivial | refine And.intro rfl ?_), H2, Drops.refl _ _, k2, k4, g2, s2, c2, g3, g4, s4, lo2⟩
        · obtain rfl : i = a' := by omega
          have z1 := c2.2.1
          have z1' : k2.c (0 + 1) = .int .i64 (a : Nat) := z1
          (repeat first|refine zG ?_|(refine LS.nilO ?_;intro nq hnq hltq;try refine zU ?_)|(refine MS.new ?_;intro bq hbq hbqf;try refine zU ?_)|(refine MS.nil ?_;intro nq hnq hltq;have hlq:=hltq _ _ (Hp.get_eq _ _ _);clear hltq;try refine zU ?_)|(refine LS.nilQ ?_;try with_reducible intro nq hnq;try refine zU ?_))
          have g5 : ((H1.set n (put1 k2.c 1 (SV.int .i64 ((a : Int) + (i : Int))))).set (n + 2) (splice k4.c 0 522 (put1 k2.c 1 (SV.int .i64 ((a : Int) + (i : Int)))))).get (n + 2) = some ⟨k4.size, splice k4.c 0 522 (put1 k2.c 1 (SV.int .i64 ((a : Int) + (i : Int)))), k4.ty⟩ := Hp.get_set_self _ (by rw [Hp.get_set_other _ (by omega)]; exact g4)
          (repeat first|refine zG ?_|(refine LS.nilO ?_;intro nq hnq hltq;try refine zU ?_)|(refine MS.new ?_;intro bq hbq hbqf;try refine zU ?_)|(refine MS.nil ?_;intro nq hnq hltq;have hlq:=hltq _ _ (Hp.get_eq _ _ _);clear hltq;try refine zU ?_)|(refine LS.nilQ ?_;try with_reducible intro nq hnq;try refine zU ?_))
          have c3 : ALB (put1 k2.c 1 (SV.int .i64 ((a : Int) + (i : Int)))) p ((a + i : Nat) : Int) := by
            have := c2.size (s := (a : Int) + (i : Int))
            rwa [← Int.natCast_add] at this
          exact ⟨.tup [.arr 522 (put1 k2.c 1 (SV.int .i64 ((a : Int) + (i : Int)))), i64 0], H, conc_tup2 (conc_arr (fun q hq => by rw [Nat.zero_add]; unfold splice; rw [if_pos (by omega), Nat.sub_zero])) rfl, Drops.low hf (fun x hx => by rw [Hp.get_set_other _ (by omega), Hp.get_set_other _ (by omega)]; exact lo1 x hx), _, _, rfl, fun _ => ⟨a + i, by omega, by omega, c3⟩, rfl⟩
    · rw [tb_false hA']
      (repeat first|refine zG ?_|(refine LS.nilO ?_;intro nq hnq hltq;try refine zU ?_)|(refine MS.new ?_;intro bq hbq hbqf;try refine zU ?_)|(refine MS.nil ?_;intro nq hnq hltq;have hlq:=hltq _ _ (Hp.get_eq _ _ _);clear hltq;try refine zU ?_)|(refine LS.nilQ ?_;try with_reducible intro nq hnq;try refine zU ?_))
      exact ⟨_, H, rfl, by exact zD, _, _, rfl, fun q => by omega, rfl⟩
  · rw [tb_false hA]
    (repeat first|refine zG ?_|(refine LS.nilO ?_;intro nq hnq hltq;try refine zU ?_)|(refine MS.new ?_;intro bq hbq hbqf;try refine zU ?_)|(refine MS.nil ?_;intro nq hnq hltq;have hlq:=hltq _ _ (Hp.get_eq _ _ _);clear hltq;try refine zU ?_)|(refine LS.nilQ ?_;try with_reducible intro nq hnq;try refine zU ?_))
    exact ⟨_, H, rfl, by exact zD, _, _, rfl, fun q => by omega, rfl⟩

end Go.Proofs.YtgnphaopeplfbaaGreatDoor
