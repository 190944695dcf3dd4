/- Algebras and vectors that are drawn (printed by g114.py). -/
import Derived.Test.YtgnphaopeplfbaaGreatDoorJat
import Derived.Test.YtgnphaopeplfbaaGreatDoorJal
set_option linter.unusedSectionVars false
set_option linter.unusedVariables false
set_option linter.unusedSimpArgs false

namespace Go.Proofs.YtgnphaopeplfbaaGreatDoor

open Go.V

variable [BW]

set_option linter.unusedSimpArgs false

set_option linter.unusedVariables false

set_option maxHeartbeats 4000000

/-- spec.l01Draw -/
def ir56 : Cd := (.seq (.reg [⟨some 2,none,.new 31 [(2,(.int .i64 0)),(520,(.int .u8 0))]⟩]) (.seq (.reg [⟨some 9,none,.mov (.t 0)⟩,⟨some 10,none,.call 81 [(.t 9)]⟩,⟨some 3,none,.mov (.t 10)⟩]) (.seq (.seq (.reg [⟨some 11,none,.mov (.t 0)⟩,⟨some 12,none,.call 45 [(.t 11),(.c (.int .i64 6))]⟩]) (.block 0 (.seq (.reg [⟨some 14,none,.bin .eql (.t 12) (.c (.int .i64 0))⟩,⟨some 13,none,.mov (.t 14)⟩]) (.cond (.t 13) (.seq (.reg [⟨some 15,none,.mov (.t 3)⟩,⟨some 16,none,.mov (.t 0)⟩,⟨some 17,none,.call 45 [(.t 16),(.c (.int .i64 8))]⟩,⟨some 18,none,.bin .add (.c (.int .i64 1)) (.t 17)⟩,⟨some 19,none,.call 82 [(.t 15),(.t 18)]⟩,⟨none,none,.st 522 (.t 2) (.t 19)⟩]) .ret) (.seq (.reg [⟨some 21,none,.bin .eql (.t 12) (.c (.int .i64 1))⟩,⟨some 20,none,.mov (.t 21)⟩]) (.cond (.t 20) (.seq (.reg [⟨some 22,none,.mov (.t 0)⟩,⟨some 23,none,.call 45 [(.t 22),(.c (.int .i64 6))]⟩,⟨some 24,none,.bin .add (.c (.int .i64 1)) (.t 23)⟩,⟨some 4,none,.mov (.t 24)⟩]) (.seq (.reg [⟨some 25,none,.mov (.t 3)⟩,⟨some 26,none,.mov (.t 4)⟩,⟨some 27,none,.mov (.t 0)⟩,⟨some 28,none,.mov (.t 3)⟩,⟨some 29,none,.call 45 [(.t 27),(.t 28)]⟩,⟨some 30,none,.mov (.t 0)⟩,⟨some 31,none,.mov (.t 4)⟩,⟨some 32,none,.call 45 [(.t 30),(.t 31)]⟩,⟨some 33,none,.call 83 [(.t 25),(.t 26),(.t 29),(.t 32)]⟩,⟨none,none,.st 522 (.t 2) (.t 33)⟩]) .ret)) (.seq (.reg [⟨some 35,none,.bin .eql (.t 12) (.c (.int .i64 2))⟩,⟨some 34,none,.mov (.t 35)⟩]) (.cond (.t 34) (.seq (.reg [⟨some 36,none,.mov (.t 3)⟩,⟨some 37,none,.call 84 [(.t 36)]⟩,⟨none,none,.st 522 (.t 2) (.t 37)⟩]) .ret) (.seq (.reg [⟨some 39,none,.bin .eql (.t 12) (.c (.int .i64 3))⟩,⟨some 38,none,.mov (.t 39)⟩]) (.cond (.t 38) (.seq (.reg [⟨some 41,none,.mov (.t 3)⟩,⟨some 42,none,.mov (.t 0)⟩,⟨some 43,none,.call 45 [(.t 42),(.c (.int .i64 3))]⟩,⟨some 44,none,.bin .add (.c (.int .i64 1)) (.t 43)⟩,⟨some 45,none,.call 82 [(.t 41),(.t 44)]⟩,⟨some 46,none,.mov (.t 3)⟩,⟨some 47,none,.call 84 [(.t 46)]⟩,⟨some 48,none,.call 85 [(.t 45),(.t 47)]⟩,⟨some 40,none,.mov (.t 48)⟩,⟨some 49,none,.ex (.t 40) 0⟩,⟨some 50,none,.ex (.t 40) 1⟩,⟨some 5,none,.new 31 [(2,(.int .i64 0)),(520,(.int .u8 0))]⟩,⟨none,none,.st 522 (.t 5) (.t 49)⟩,⟨some 6,none,.mov (.t 50)⟩]) (.seq (.reg [⟨some 51,none,.mov (.t 6)⟩,⟨some 52,none,.bin .eql (.t 51) (.c (.int .i64 0))⟩]) (.cond (.t 52) (.seq (.reg [⟨some 53,none,.ld (some 522) (.t 5)⟩,⟨none,none,.st 522 (.t 2) (.t 53)⟩]) .ret) .skip))) (.seq (.reg [⟨some 55,none,.bin .eql (.t 12) (.c (.int .i64 4))⟩,⟨some 54,none,.mov (.t 55)⟩]) (.cond (.t 54) (.seq (.reg [⟨some 57,none,.mov (.t 3)⟩,⟨some 58,none,.mov (.t 0)⟩,⟨some 59,none,.call 45 [(.t 58),(.c (.int .i64 3))]⟩,⟨some 60,none,.bin .add (.c (.int .i64 1)) (.t 59)⟩,⟨some 61,none,.call 83 [(.t 57),(.t 60),(.c (.int .i64 0)),(.c (.int .i64 0))]⟩,⟨some 62,none,.mov (.t 3)⟩,⟨some 63,none,.mov (.t 0)⟩,⟨some 64,none,.call 45 [(.t 63),(.c (.int .i64 4))]⟩,⟨some 65,none,.bin .add (.c (.int .i64 1)) (.t 64)⟩,⟨some 66,none,.mov (.t 0)⟩,⟨some 67,none,.mov (.t 3)⟩,⟨some 68,none,.call 45 [(.t 66),(.t 67)]⟩,⟨some 69,none,.call 83 [(.t 62),(.t 65),(.t 68),(.c (.int .i64 0))]⟩,⟨some 70,none,.call 85 [(.t 61),(.t 69)]⟩,⟨some 56,none,.mov (.t 70)⟩,⟨some 71,none,.ex (.t 56) 0⟩,⟨some 72,none,.ex (.t 56) 1⟩,⟨some 7,none,.new 31 [(2,(.int .i64 0)),(520,(.int .u8 0))]⟩,⟨none,none,.st 522 (.t 7) (.t 71)⟩,⟨some 8,none,.mov (.t 72)⟩]) (.seq (.reg [⟨some 73,none,.mov (.t 8)⟩,⟨some 74,none,.bin .eql (.t 73) (.c (.int .i64 0))⟩]) (.cond (.t 74) (.seq (.reg [⟨some 75,none,.ld (some 522) (.t 7)⟩,⟨none,none,.st 522 (.t 2) (.t 75)⟩]) .ret) .skip))) .skip)))))))))))) (.seq (.reg [⟨some 76,none,.mov (.t 3)⟩,⟨some 77,none,.mov (.t 0)⟩,⟨some 78,none,.call 45 [(.t 77),(.c (.int .i64 3))]⟩,⟨some 79,none,.bin .add (.c (.int .i64 1)) (.t 78)⟩,⟨some 80,none,.call 83 [(.t 76),(.t 79),(.c (.int .i64 0)),(.c (.int .i64 0))]⟩,⟨none,none,.st 522 (.t 2) (.t 80)⟩]) .ret))))

set_option maxRecDepth 100000 in
theorem tr56 : trFn Tryz.prog Tryz.f56 = some (81, ir56, [.cell (some 522) 2]) := by kernel_rfl

theorem spec_l01Draw (m0 : Nat) (sv : SV) (len : Nat) (f : Nat → Int) (b : Nat) (t : TypeId) (H : Hp) (n : Nat) (hR : RA m0 1 sv len f) (hfb : ∀ i, i < 1 * len → 0 ≤ f i ∧ f i ≤ 255) (hlen : len ≤ 4096) (hm : ∀ x, x < m0 → H.get x = none) (hbm : m0 ≤ b) (hS : SRQ H b t sv len) :
    FnS Tryz.prog 56 [ptr b 0] H n (fun r H' _ => ∃ K p s, r = .arr 522 K ∧ ALB K p s ∧ 2 ≤ p ∧ p ≤ 31 ∧ 1 ≤ s ∧ s ≤ 8 ∧ SRQ H' b t sv len ∧ ∀ y, y < n → y ≠ b → H'.get y = H.get y) := by
  obtain ⟨Kb, gS, -⟩ := id hS
  refine FnS.of_body Tryz.func56 tr56 (by simp) (fun hf => ?_)
  dsimp only [argEnv]
  unfold ir56
  have hbn := getlt hf gS
  (repeat first|refine zG ?_|(refine LS.nilO ?_;intro nq hnq hltq;try refine zU ?_)|(refine MS.new ?_;intro bq hbq hbqf;try refine zU ?_)|(refine MS.nil ?_;intro nq hnq hltq;have hlq:=hltq _ _ (Hp.get_eq _ _ _);clear hltq;try refine zU ?_)|(refine LS.nilQ ?_;try with_reducible intro nq hnq;try refine zU ?_))
  refine RS.call rfl ((spec_l01DrawPrime m0 sv len f b t _ _ hR hfb hlen (fun x hx => by rw [Hp.get_ne _ _ (by omega)]; exact hm x hx) hbm (hS.keep (Hp.get_ne _ _ (by omega)))).mono ?_)
  rintro r H1 n1 hn1 ⟨p, rfl, hp1, hp2, hS1, lo1'⟩
  have lo1 : ∀ y, y < n → y ≠ b → H1.get y = H.get y := fun y hy hyb => by rw [lo1' y (by omega) hyb, Hp.get_ne _ _ (by omega)]
  obtain ⟨kn, gn1, skn⟩ : ∃ kn, H1.get n = some kn ∧ kn.size = 522 := ⟨_, by rw [lo1' n (by omega) (by omega)]; exact Hp.get_eq _ _ _, rfl⟩
  clear lo1'
  (repeat first|refine zG ?_|(refine LS.nilO ?_;intro nq hnq hltq;try refine zU ?_)|(refine MS.new ?_;intro bq hbq hbqf;try refine zU ?_)|(refine MS.nil ?_;intro nq hnq hltq;have hlq:=hltq _ _ (Hp.get_eq _ _ _);clear hltq;try refine zU ?_)|(refine LS.nilQ ?_;try with_reducible intro nq hnq;try refine zU ?_))
  refine RS.call rfl ((spec_l01Next m0 sv len f b t 6 _ _ hR hfb hlen (fun x hx => by rw [lo1 x (by omega) (by omega)]; exact hm x hx) hbm hS1).mono ?_)
  rintro r H2 n2 hn2 ⟨x, rfl, x0, x1, -, hS2, lo2'⟩
  replace x1 := x1 (by omega)
  have lo2 : ∀ y, y < n → y ≠ b → H2.get y = H.get y := fun y hy hyb => by rw [lo2' y hyb]; exact lo1 y hy hyb
  have gn2 : H2.get n = some kn := by rw [lo2' n (by omega)]; exact gn1
  (repeat first|refine zG ?_|(refine LS.nilO ?_;intro nq hnq hltq;try refine zU ?_)|(refine MS.new ?_;intro bq hbq hbqf;try refine zU ?_)|(refine MS.nil ?_;intro nq hnq hltq;have hlq:=hltq _ _ (Hp.get_eq _ _ _);clear hltq;try refine zU ?_)|(refine LS.nilQ ?_;try with_reducible intro nq hnq;try refine zU ?_))
  refine zI ?_ ?_<;>intro h0
  · (repeat first|refine zG ?_|(refine LS.nilO ?_;intro nq hnq hltq;try refine zU ?_)|(refine MS.new ?_;intro bq hbq hbqf;try refine zU ?_)|(refine MS.nil ?_;intro nq hnq hltq;have hlq:=hltq _ _ (Hp.get_eq _ _ _);clear hltq;try refine zU ?_)|(refine LS.nilQ ?_;try with_reducible intro nq hnq;try refine zU ?_))
    refine RS.call rfl ((spec_l01Next m0 sv len f b t 8 _ _ hR hfb hlen (fun x hx => by rw [lo2 x (by omega) (by omega)]; exact hm x hx) hbm hS2).mono ?_)
    rintro r H3 n3 hn3 ⟨y, rfl, y0, y1, -, hS3, lo3'⟩
    replace y1 := y1 (by omega)
    have lo3 : ∀ y, y < n → y ≠ b → H3.get y = H.get y := fun y hy hyb => by rw [lo3' y hyb]; exact lo2 y hy hyb
    have gn3 : H3.get n = some kn := by rw [lo3' n (by omega)]; exact gn2
    obtain ⟨y, rfl⟩ := Int.eq_ofNat_of_zero_le y0
    (repeat first|refine zG ?_|(refine LS.nilO ?_;intro nq hnq hltq;try refine zU ?_)|(refine MS.new ?_;intro bq hbq hbqf;try refine zU ?_)|(refine MS.nil ?_;intro nq hnq hltq;have hlq:=hltq _ _ (Hp.get_eq _ _ _);clear hltq;try refine zU ?_)|(refine LS.nilQ ?_;try with_reducible intro nq hnq;try refine zU ?_))
    rw [show (1 : Int) + (y : Int) = ((1 + y : Nat) : Int) by omega]
    refine RS.call rfl ((spec_l01Cyclic p (1 + y) _ _ (by omega) (by omega)).mono ?_)
    rintro r H' nq1 hnq1 ⟨K, rfl, hK, he⟩
    rw [he]
    clear he
    (repeat first|refine zG ?_|(refine LS.nilO ?_;intro nq hnq hltq;try refine zU ?_)|(refine MS.new ?_;intro bq hbq hbqf;try refine zU ?_)|(refine MS.nil ?_;intro nq hnq hltq;have hlq:=hltq _ _ (Hp.get_eq _ _ _);clear hltq;try refine zU ?_)|(refine LS.nilQ ?_;try with_reducible intro nq hnq;try refine zU ?_))
    exact ⟨.arr 522 K, _, conc_arr (fun q hq => by rw [Nat.zero_add]; unfold splice; rw [if_pos (by omega), Nat.sub_zero]), Drops.refl _ _, K, p, _, rfl, hK, hp1, hp2, by omega, by omega, hS3.keep (Hp.get_set_other _ (by omega)), fun y hy hyb => by rw [Hp.get_set_other _ (by omega)]; exact lo3 y hy hyb⟩
  (repeat first|refine zG ?_|(refine LS.nilO ?_;intro nq hnq hltq;try refine zU ?_)|(refine MS.new ?_;intro bq hbq hbqf;try refine zU ?_)|(refine MS.nil ?_;intro nq hnq hltq;have hlq:=hltq _ _ (Hp.get_eq _ _ _);clear hltq;try refine zU ?_)|(refine LS.nilQ ?_;try with_reducible intro nq hnq;try refine zU ?_))
  refine zI ?_ ?_<;>intro h1
  · (repeat first|refine zG ?_|(refine LS.nilO ?_;intro nq hnq hltq;try refine zU ?_)|(refine MS.new ?_;intro bq hbq hbqf;try refine zU ?_)|(refine MS.nil ?_;intro nq hnq hltq;have hlq:=hltq _ _ (Hp.get_eq _ _ _);clear hltq;try refine zU ?_)|(refine LS.nilQ ?_;try with_reducible intro nq hnq;try refine zU ?_))
    refine RS.call rfl ((spec_l01Next m0 sv len f b t 6 _ _ hR hfb hlen (fun x hx => by rw [lo2 x (by omega) (by omega)]; exact hm x hx) hbm hS2).mono ?_)
    rintro r H3 n3 hn3 ⟨y, rfl, y0, y1, -, hS3, lo3'⟩
    replace y1 := y1 (by omega)
    have lo3 : ∀ y, y < n → y ≠ b → H3.get y = H.get y := fun y hy hyb => by rw [lo3' y hyb]; exact lo2 y hy hyb
    have gn3 : H3.get n = some kn := by rw [lo3' n (by omega)]; exact gn2
    obtain ⟨y, rfl⟩ := Int.eq_ofNat_of_zero_le y0
    (repeat first|refine zG ?_|(refine LS.nilO ?_;intro nq hnq hltq;try refine zU ?_)|(refine MS.new ?_;intro bq hbq hbqf;try refine zU ?_)|(refine MS.nil ?_;intro nq hnq hltq;have hlq:=hltq _ _ (Hp.get_eq _ _ _);clear hltq;try refine zU ?_)|(refine LS.nilQ ?_;try with_reducible intro nq hnq;try refine zU ?_))
    rw [show (1 : Int) + (y : Int) = ((1 + y : Nat) : Int) by omega]
    (repeat first|refine zG ?_|(refine LS.nilO ?_;intro nq hnq hltq;try refine zU ?_)|(refine MS.new ?_;intro bq hbq hbqf;try refine zU ?_)|(refine MS.nil ?_;intro nq hnq hltq;have hlq:=hltq _ _ (Hp.get_eq _ _ _);clear hltq;try refine zU ?_)|(refine LS.nilQ ?_;try with_reducible intro nq hnq;try refine zU ?_))
    refine RS.call rfl ((spec_l01Next m0 sv len f b t p _ _ hR hfb hlen (fun x hx => by rw [lo3 x (by omega) (by omega)]; exact hm x hx) hbm hS3).mono ?_)
    rintro r H4 n4 hn4 ⟨g, rfl, g0, g1, -, hS4, lo4'⟩
    replace g1 := g1 (by omega)
    have lo4 : ∀ y, y < n → y ≠ b → H4.get y = H.get y := fun y hy hyb => by rw [lo4' y hyb]; exact lo3 y hy hyb
    have gn4 : H4.get n = some kn := by rw [lo4' n (by omega)]; exact gn3
    (repeat first|refine zG ?_|(refine LS.nilO ?_;intro nq hnq hltq;try refine zU ?_)|(refine MS.new ?_;intro bq hbq hbqf;try refine zU ?_)|(refine MS.nil ?_;intro nq hnq hltq;have hlq:=hltq _ _ (Hp.get_eq _ _ _);clear hltq;try refine zU ?_)|(refine LS.nilQ ?_;try with_reducible intro nq hnq;try refine zU ?_))
    refine RS.call rfl ((spec_l01Next m0 sv len f b t ((1 + y : Nat) : Int) _ _ hR hfb hlen (fun x hx => by rw [lo4 x (by omega) (by omega)]; exact hm x hx) hbm hS4).mono ?_)
    rintro r H5 n5 hn5 ⟨o, rfl, o0, o1, -, hS5, lo5'⟩
    replace o1 := o1 (by omega)
    have lo5 : ∀ y, y < n → y ≠ b → H5.get y = H.get y := fun y hy hyb => by rw [lo5' y hyb]; exact lo4 y hy hyb
    have gn5 : H5.get n = some kn := by rw [lo5' n (by omega)]; exact gn4
    (repeat first|refine zG ?_|(refine LS.nilO ?_;intro nq hnq hltq;try refine zU ?_)|(refine MS.new ?_;intro bq hbq hbqf;try refine zU ?_)|(refine MS.nil ?_;intro nq hnq hltq;have hlq:=hltq _ _ (Hp.get_eq _ _ _);clear hltq;try refine zU ?_)|(refine LS.nilQ ?_;try with_reducible intro nq hnq;try refine zU ?_))
    refine RS.call rfl ((spec_l01Powers p (1 + y) g o _ _ ⟨hp1, hp2⟩ (by omega) (by omega) (by omega) (by omega)).mono ?_)
    rintro r H' nq1 hnq1 ⟨K, rfl, hK, he⟩
    rw [he]
    clear he
    (repeat first|refine zG ?_|(refine LS.nilO ?_;intro nq hnq hltq;try refine zU ?_)|(refine MS.new ?_;intro bq hbq hbqf;try refine zU ?_)|(refine MS.nil ?_;intro nq hnq hltq;have hlq:=hltq _ _ (Hp.get_eq _ _ _);clear hltq;try refine zU ?_)|(refine LS.nilQ ?_;try with_reducible intro nq hnq;try refine zU ?_))
    exact ⟨.arr 522 K, _, conc_arr (fun q hq => by rw [Nat.zero_add]; unfold splice; rw [if_pos (by omega), Nat.sub_zero]), Drops.refl _ _, K, p, _, rfl, hK, hp1, hp2, by omega, by omega, hS5.keep (Hp.get_set_other _ (by omega)), fun y hy hyb => by rw [Hp.get_set_other _ (by omega)]; exact lo5 y hy hyb⟩
  (repeat first|refine zG ?_|(refine LS.nilO ?_;intro nq hnq hltq;try refine zU ?_)|(refine MS.new ?_;intro bq hbq hbqf;try refine zU ?_)|(refine MS.nil ?_;intro nq hnq hltq;have hlq:=hltq _ _ (Hp.get_eq _ _ _);clear hltq;try refine zU ?_)|(refine LS.nilQ ?_;try with_reducible intro nq hnq;try refine zU ?_))
  refine zI ?_ ?_<;>intro h2
  · (repeat first|refine zG ?_|(refine LS.nilO ?_;intro nq hnq hltq;try refine zU ?_)|(refine MS.new ?_;intro bq hbq hbqf;try refine zU ?_)|(refine MS.nil ?_;intro nq hnq hltq;have hlq:=hltq _ _ (Hp.get_eq _ _ _);clear hltq;try refine zU ?_)|(refine LS.nilQ ?_;try with_reducible intro nq hnq;try refine zU ?_))
    refine RS.call rfl ((spec_l01Matrices p _ _).mono ?_)
    rintro r H' nq1 hnq1 ⟨K, rfl, hK, he⟩
    rw [he]
    clear he
    (repeat first|refine zG ?_|(refine LS.nilO ?_;intro nq hnq hltq;try refine zU ?_)|(refine MS.new ?_;intro bq hbq hbqf;try refine zU ?_)|(refine MS.nil ?_;intro nq hnq hltq;have hlq:=hltq _ _ (Hp.get_eq _ _ _);clear hltq;try refine zU ?_)|(refine LS.nilQ ?_;try with_reducible intro nq hnq;try refine zU ?_))
    exact ⟨.arr 522 K, _, conc_arr (fun q hq => by rw [Nat.zero_add]; unfold splice; rw [if_pos (by omega), Nat.sub_zero]), Drops.refl _ _, K, p, _, rfl, hK, hp1, hp2, by omega, by omega, hS2.keep (Hp.get_set_other _ (by omega)), fun y hy hyb => by rw [Hp.get_set_other _ (by omega)]; exact lo2 y hy hyb⟩
  (repeat first|refine zG ?_|(refine LS.nilO ?_;intro nq hnq hltq;try refine zU ?_)|(refine MS.new ?_;intro bq hbq hbqf;try refine zU ?_)|(refine MS.nil ?_;intro nq hnq hltq;have hlq:=hltq _ _ (Hp.get_eq _ _ _);clear hltq;try refine zU ?_)|(refine LS.nilQ ?_;try with_reducible intro nq hnq;try refine zU ?_))
  refine zI ?_ ?_<;>intro h3
  · (repeat first|refine zG ?_|(refine LS.nilO ?_;intro nq hnq hltq;try refine zU ?_)|(refine MS.new ?_;intro bq hbq hbqf;try refine zU ?_)|(refine MS.nil ?_;intro nq hnq hltq;have hlq:=hltq _ _ (Hp.get_eq _ _ _);clear hltq;try refine zU ?_)|(refine LS.nilQ ?_;try with_reducible intro nq hnq;try refine zU ?_))
    refine RS.call rfl ((spec_l01Next m0 sv len f b t 3 _ _ hR hfb hlen (fun x hx => by rw [lo2 x (by omega) (by omega)]; exact hm x hx) hbm hS2).mono ?_)
    rintro r H3 n3 hn3 ⟨y, rfl, y0, y1, -, hS3, lo3'⟩
    replace y1 := y1 (by omega)
    have lo3 : ∀ y, y < n → y ≠ b → H3.get y = H.get y := fun y hy hyb => by rw [lo3' y hyb]; exact lo2 y hy hyb
    have gn3 : H3.get n = some kn := by rw [lo3' n (by omega)]; exact gn2
    obtain ⟨y, rfl⟩ := Int.eq_ofNat_of_zero_le y0
    (repeat first|refine zG ?_|(refine LS.nilO ?_;intro nq hnq hltq;try refine zU ?_)|(refine MS.new ?_;intro bq hbq hbqf;try refine zU ?_)|(refine MS.nil ?_;intro nq hnq hltq;have hlq:=hltq _ _ (Hp.get_eq _ _ _);clear hltq;try refine zU ?_)|(refine LS.nilQ ?_;try with_reducible intro nq hnq;try refine zU ?_))
    rw [show (1 : Int) + (y : Int) = ((1 + y : Nat) : Int) by omega]
    refine RS.call rfl ((spec_l01Cyclic p (1 + y) _ _ (by omega) (by omega)).mono ?_)
    rintro r H' nq1 hnq1 ⟨Ka, rfl, hKa, he⟩
    rw [he]
    clear he
    (repeat first|refine zG ?_|(refine LS.nilO ?_;intro nq hnq hltq;try refine zU ?_)|(refine MS.new ?_;intro bq hbq hbqf;try refine zU ?_)|(refine MS.nil ?_;intro nq hnq hltq;have hlq:=hltq _ _ (Hp.get_eq _ _ _);clear hltq;try refine zU ?_)|(refine LS.nilQ ?_;try with_reducible intro nq hnq;try refine zU ?_))
    refine RS.call rfl ((spec_l01Matrices p _ _).mono ?_)
    rintro r H' nq1 hnq1 ⟨Kc, rfl, hKc, he⟩
    rw [he]
    clear he
    (repeat first|refine zG ?_|(refine LS.nilO ?_;intro nq hnq hltq;try refine zU ?_)|(refine MS.new ?_;intro bq hbq hbqf;try refine zU ?_)|(refine MS.nil ?_;intro nq hnq hltq;have hlq:=hltq _ _ (Hp.get_eq _ _ _);clear hltq;try refine zU ?_)|(refine LS.nilQ ?_;try with_reducible intro nq hnq;try refine zU ?_))
    refine RS.call rfl ((spec_ProductAlgebra p (1 + y) (4) Ka Kc _ _ (by omega) (by omega) (by omega) (by omega) hKa hKc).mono ?_)
    rintro r H' n7 hn7 ⟨KP, c, rfl, hKP, he⟩
    rw [he]
    clear he
    (repeat first|refine zG ?_|(refine LS.nilO ?_;intro nq hnq hltq;try refine zU ?_)|(refine MS.new ?_;intro bq hbq hbqf;try refine zU ?_)|(refine MS.nil ?_;intro nq hnq hltq;have hlq:=hltq _ _ (Hp.get_eq _ _ _);clear hltq;try refine zU ?_)|(refine LS.nilQ ?_;try with_reducible intro nq hnq;try refine zU ?_))
    obtain ⟨H4, hH4⟩ : ∃ HN : Hp, HN = (n7, ⟨Zs.size [(2, SV.int .i64 0), (520, SV.int .u8 0)], KP, 31⟩) :: H3 := ⟨_, rfl⟩
    rw [← hH4]
    have hbH : b ≠ n7 := by omega
    have hS4 : SRQ H4 b t sv len := hS3.keep (by rw [hH4, Hp.get_ne _ _ (fun q => hbH q.symm)])
    have lo4 : ∀ y, y < n → y ≠ b → H4.get y = H.get y := fun y hy hyb => by rw [hH4, Hp.get_ne _ _ (by omega)]; exact lo3 y hy hyb
    have gn4 : H4.get n = some kn := by rw [hH4, Hp.get_ne _ _ (by omega)]; exact gn3
    have gp4 : H4.get n7 = some ⟨Zs.size [(2, SV.int .i64 0), (520, SV.int .u8 0)], KP, 31⟩ := by rw [hH4]; exact Hp.get_eq _ _ _
    clear hH4
    refine zI ?_ ?_<;>intro hc
    · obtain ⟨s, hs1, hs2, hA⟩ := hKP hc
      (repeat first|refine zG ?_|(refine LS.nilO ?_;intro nq hnq hltq;try refine zU ?_)|(refine MS.new ?_;intro bq hbq hbqf;try refine zU ?_)|(refine MS.nil ?_;intro nq hnq hltq;have hlq:=hltq _ _ (Hp.get_eq _ _ _);clear hltq;try refine zU ?_)|(refine LS.nilQ ?_;try with_reducible intro nq hnq;try refine zU ?_))
      exact ⟨.arr 522 KP, _, conc_arr (fun q hq => by rw [Nat.zero_add]; unfold splice; rw [if_pos (by omega), Nat.sub_zero]), Drops.refl _ _, KP, p, _, rfl, hA, hp1, hp2, by omega, by omega, hS4.keep (Hp.get_set_other _ (by omega)), fun y hy hyb => by rw [Hp.get_set_other _ (by omega)]; exact lo4 y hy hyb⟩
    · (repeat first|refine zG ?_|(refine LS.nilO ?_;intro nq hnq hltq;try refine zU ?_)|(refine MS.new ?_;intro bq hbq hbqf;try refine zU ?_)|(refine MS.nil ?_;intro nq hnq hltq;have hlq:=hltq _ _ (Hp.get_eq _ _ _);clear hltq;try refine zU ?_)|(refine LS.nilQ ?_;try with_reducible intro nq hnq;try refine zU ?_))
      refine RS.call rfl ((spec_l01Next m0 sv len f b t 3 _ _ hR hfb hlen (fun x hx => by rw [lo4 x (by omega) (by omega)]; exact hm x hx) hbm hS4).mono ?_)
      rintro r H9 n9 hn9 ⟨z, rfl, z0, z1, -, hS9, lo9'⟩
      replace z1 := z1 (by omega)
      have lo9 : ∀ y, y < n → y ≠ b → H9.get y = H.get y := fun y hy hyb => by rw [lo9' y hyb]; exact lo4 y hy hyb
      have gn9 : H9.get n = some kn := by rw [lo9' n (by omega)]; exact gn4
      obtain ⟨z, rfl⟩ := Int.eq_ofNat_of_zero_le z0
      (repeat first|refine zG ?_|(refine LS.nilO ?_;intro nq hnq hltq;try refine zU ?_)|(refine MS.new ?_;intro bq hbq hbqf;try refine zU ?_)|(refine MS.nil ?_;intro nq hnq hltq;have hlq:=hltq _ _ (Hp.get_eq _ _ _);clear hltq;try refine zU ?_)|(refine LS.nilQ ?_;try with_reducible intro nq hnq;try refine zU ?_))
      rw [show (1 : Int) + (z : Int) = ((1 + z : Nat) : Int) by omega]
      refine RS.call rfl ((spec_l01Powers p (1 + z) 0 0 _ _ ⟨hp1, hp2⟩ (by omega) (by omega) (by omega) (by omega)).mono ?_)
      rintro r H' nq1 hnq1 ⟨KZ, rfl, hKZ, he⟩
      rw [he]
      clear he
      (repeat first|refine zG ?_|(refine LS.nilO ?_;intro nq hnq hltq;try refine zU ?_)|(refine MS.new ?_;intro bq hbq hbqf;try refine zU ?_)|(refine MS.nil ?_;intro nq hnq hltq;have hlq:=hltq _ _ (Hp.get_eq _ _ _);clear hltq;try refine zU ?_)|(refine LS.nilQ ?_;try with_reducible intro nq hnq;try refine zU ?_))
      exact ⟨.arr 522 KZ, _, conc_arr (fun q hq => by rw [Nat.zero_add]; unfold splice; rw [if_pos (by omega), Nat.sub_zero]), Drops.refl _ _, KZ, p, _, rfl, hKZ, hp1, hp2, by omega, by omega, hS9.keep (Hp.get_set_other _ (by omega)), fun y hy hyb => by rw [Hp.get_set_other _ (by omega)]; exact lo9 y hy hyb⟩
  (repeat first|refine zG ?_|(refine LS.nilO ?_;intro nq hnq hltq;try refine zU ?_)|(refine MS.new ?_;intro bq hbq hbqf;try refine zU ?_)|(refine MS.nil ?_;intro nq hnq hltq;have hlq:=hltq _ _ (Hp.get_eq _ _ _);clear hltq;try refine zU ?_)|(refine LS.nilQ ?_;try with_reducible intro nq hnq;try refine zU ?_))
  refine zI ?_ ?_<;>intro h4
  · (repeat first|refine zG ?_|(refine LS.nilO ?_;intro nq hnq hltq;try refine zU ?_)|(refine MS.new ?_;intro bq hbq hbqf;try refine zU ?_)|(refine MS.nil ?_;intro nq hnq hltq;have hlq:=hltq _ _ (Hp.get_eq _ _ _);clear hltq;try refine zU ?_)|(refine LS.nilQ ?_;try with_reducible intro nq hnq;try refine zU ?_))
    refine RS.call rfl ((spec_l01Next m0 sv len f b t 3 _ _ hR hfb hlen (fun x hx => by rw [lo2 x (by omega) (by omega)]; exact hm x hx) hbm hS2).mono ?_)
    rintro r H3 n3 hn3 ⟨y, rfl, y0, y1, -, hS3, lo3'⟩
    replace y1 := y1 (by omega)
    have lo3 : ∀ y, y < n → y ≠ b → H3.get y = H.get y := fun y hy hyb => by rw [lo3' y hyb]; exact lo2 y hy hyb
    have gn3 : H3.get n = some kn := by rw [lo3' n (by omega)]; exact gn2
    obtain ⟨y, rfl⟩ := Int.eq_ofNat_of_zero_le y0
    (repeat first|refine zG ?_|(refine LS.nilO ?_;intro nq hnq hltq;try refine zU ?_)|(refine MS.new ?_;intro bq hbq hbqf;try refine zU ?_)|(refine MS.nil ?_;intro nq hnq hltq;have hlq:=hltq _ _ (Hp.get_eq _ _ _);clear hltq;try refine zU ?_)|(refine LS.nilQ ?_;try with_reducible intro nq hnq;try refine zU ?_))
    rw [show (1 : Int) + (y : Int) = ((1 + y : Nat) : Int) by omega]
    refine RS.call rfl ((spec_l01Powers p (1 + y) 0 0 _ _ ⟨hp1, hp2⟩ (by omega) (by omega) (by omega) (by omega)).mono ?_)
    rintro r H' nq1 hnq1 ⟨Ka, rfl, hKa, he⟩
    rw [he]
    clear he
    (repeat first|refine zG ?_|(refine LS.nilO ?_;intro nq hnq hltq;try refine zU ?_)|(refine MS.new ?_;intro bq hbq hbqf;try refine zU ?_)|(refine MS.nil ?_;intro nq hnq hltq;have hlq:=hltq _ _ (Hp.get_eq _ _ _);clear hltq;try refine zU ?_)|(refine LS.nilQ ?_;try with_reducible intro nq hnq;try refine zU ?_))
    refine RS.call rfl ((spec_l01Next m0 sv len f b t 4 _ _ hR hfb hlen (fun x hx => by rw [lo3 x (by omega) (by omega)]; exact hm x hx) hbm hS3).mono ?_)
    rintro r H4 n4 hn4 ⟨w, rfl, w0, w1, -, hS4, lo4'⟩
    replace w1 := w1 (by omega)
    have lo4 : ∀ y, y < n → y ≠ b → H4.get y = H.get y := fun y hy hyb => by rw [lo4' y hyb]; exact lo3 y hy hyb
    have gn4 : H4.get n = some kn := by rw [lo4' n (by omega)]; exact gn3
    obtain ⟨w, rfl⟩ := Int.eq_ofNat_of_zero_le w0
    (repeat first|refine zG ?_|(refine LS.nilO ?_;intro nq hnq hltq;try refine zU ?_)|(refine MS.new ?_;intro bq hbq hbqf;try refine zU ?_)|(refine MS.nil ?_;intro nq hnq hltq;have hlq:=hltq _ _ (Hp.get_eq _ _ _);clear hltq;try refine zU ?_)|(refine LS.nilQ ?_;try with_reducible intro nq hnq;try refine zU ?_))
    rw [show (1 : Int) + (w : Int) = ((1 + w : Nat) : Int) by omega]
    (repeat first|refine zG ?_|(refine LS.nilO ?_;intro nq hnq hltq;try refine zU ?_)|(refine MS.new ?_;intro bq hbq hbqf;try refine zU ?_)|(refine MS.nil ?_;intro nq hnq hltq;have hlq:=hltq _ _ (Hp.get_eq _ _ _);clear hltq;try refine zU ?_)|(refine LS.nilQ ?_;try with_reducible intro nq hnq;try refine zU ?_))
    refine RS.call rfl ((spec_l01Next m0 sv len f b t p _ _ hR hfb hlen (fun x hx => by rw [lo4 x (by omega) (by omega)]; exact hm x hx) hbm hS4).mono ?_)
    rintro r H5 n5 hn5 ⟨g, rfl, g0, g1, -, hS5, lo5'⟩
    replace g1 := g1 (by omega)
    have lo5 : ∀ y, y < n → y ≠ b → H5.get y = H.get y := fun y hy hyb => by rw [lo5' y hyb]; exact lo4 y hy hyb
    have gn5 : H5.get n = some kn := by rw [lo5' n (by omega)]; exact gn4
    (repeat first|refine zG ?_|(refine LS.nilO ?_;intro nq hnq hltq;try refine zU ?_)|(refine MS.new ?_;intro bq hbq hbqf;try refine zU ?_)|(refine MS.nil ?_;intro nq hnq hltq;have hlq:=hltq _ _ (Hp.get_eq _ _ _);clear hltq;try refine zU ?_)|(refine LS.nilQ ?_;try with_reducible intro nq hnq;try refine zU ?_))
    refine RS.call rfl ((spec_l01Powers p (1 + w) g 0 _ _ ⟨hp1, hp2⟩ (by omega) (by omega) (by omega) (by omega)).mono ?_)
    rintro r H' nq1 hnq1 ⟨Kc, rfl, hKc, he⟩
    rw [he]
    clear he
    (repeat first|refine zG ?_|(refine LS.nilO ?_;intro nq hnq hltq;try refine zU ?_)|(refine MS.new ?_;intro bq hbq hbqf;try refine zU ?_)|(refine MS.nil ?_;intro nq hnq hltq;have hlq:=hltq _ _ (Hp.get_eq _ _ _);clear hltq;try refine zU ?_)|(refine LS.nilQ ?_;try with_reducible intro nq hnq;try refine zU ?_))
    refine RS.call rfl ((spec_ProductAlgebra p (1 + y) (1 + w) Ka Kc _ _ (by omega) (by omega) (by omega) (by omega) hKa hKc).mono ?_)
    rintro r H' n7 hn7 ⟨KP, c, rfl, hKP, he⟩
    rw [he]
    clear he
    (repeat first|refine zG ?_|(refine LS.nilO ?_;intro nq hnq hltq;try refine zU ?_)|(refine MS.new ?_;intro bq hbq hbqf;try refine zU ?_)|(refine MS.nil ?_;intro nq hnq hltq;have hlq:=hltq _ _ (Hp.get_eq _ _ _);clear hltq;try refine zU ?_)|(refine LS.nilQ ?_;try with_reducible intro nq hnq;try refine zU ?_))
    obtain ⟨H6, hH6⟩ : ∃ HN : Hp, HN = (n7, ⟨Zs.size [(2, SV.int .i64 0), (520, SV.int .u8 0)], KP, 31⟩) :: H5 := ⟨_, rfl⟩
    rw [← hH6]
    have hbH : b ≠ n7 := by omega
    have hS6 : SRQ H6 b t sv len := hS5.keep (by rw [hH6, Hp.get_ne _ _ (fun q => hbH q.symm)])
    have lo6 : ∀ y, y < n → y ≠ b → H6.get y = H.get y := fun y hy hyb => by rw [hH6, Hp.get_ne _ _ (by omega)]; exact lo5 y hy hyb
    have gn6 : H6.get n = some kn := by rw [hH6, Hp.get_ne _ _ (by omega)]; exact gn5
    have gp6 : H6.get n7 = some ⟨Zs.size [(2, SV.int .i64 0), (520, SV.int .u8 0)], KP, 31⟩ := by rw [hH6]; exact Hp.get_eq _ _ _
    clear hH6
    refine zI ?_ ?_<;>intro hc
    · obtain ⟨s, hs1, hs2, hA⟩ := hKP hc
      (repeat first|refine zG ?_|(refine LS.nilO ?_;intro nq hnq hltq;try refine zU ?_)|(refine MS.new ?_;intro bq hbq hbqf;try refine zU ?_)|(refine MS.nil ?_;intro nq hnq hltq;have hlq:=hltq _ _ (Hp.get_eq _ _ _);clear hltq;try refine zU ?_)|(refine LS.nilQ ?_;try with_reducible intro nq hnq;try refine zU ?_))
      exact ⟨.arr 522 KP, _, conc_arr (fun q hq => by rw [Nat.zero_add]; unfold splice; rw [if_pos (by omega), Nat.sub_zero]), Drops.refl _ _, KP, p, _, rfl, hA, hp1, hp2, by omega, by omega, hS6.keep (Hp.get_set_other _ (by omega)), fun y hy hyb => by rw [Hp.get_set_other _ (by omega)]; exact lo6 y hy hyb⟩
    · (repeat first|refine zG ?_|(refine LS.nilO ?_;intro nq hnq hltq;try refine zU ?_)|(refine MS.new ?_;intro bq hbq hbqf;try refine zU ?_)|(refine MS.nil ?_;intro nq hnq hltq;have hlq:=hltq _ _ (Hp.get_eq _ _ _);clear hltq;try refine zU ?_)|(refine LS.nilQ ?_;try with_reducible intro nq hnq;try refine zU ?_))
      refine RS.call rfl ((spec_l01Next m0 sv len f b t 3 _ _ hR hfb hlen (fun x hx => by rw [lo6 x (by omega) (by omega)]; exact hm x hx) hbm hS6).mono ?_)
      rintro r H9 n9 hn9 ⟨z, rfl, z0, z1, -, hS9, lo9'⟩
      replace z1 := z1 (by omega)
      have lo9 : ∀ y, y < n → y ≠ b → H9.get y = H.get y := fun y hy hyb => by rw [lo9' y hyb]; exact lo6 y hy hyb
      have gn9 : H9.get n = some kn := by rw [lo9' n (by omega)]; exact gn6
      obtain ⟨z, rfl⟩ := Int.eq_ofNat_of_zero_le z0
      (repeat first|refine zG ?_|(refine LS.nilO ?_;intro nq hnq hltq;try refine zU ?_)|(refine MS.new ?_;intro bq hbq hbqf;try refine zU ?_)|(refine MS.nil ?_;intro nq hnq hltq;have hlq:=hltq _ _ (Hp.get_eq _ _ _);clear hltq;try refine zU ?_)|(refine LS.nilQ ?_;try with_reducible intro nq hnq;try refine zU ?_))
      rw [show (1 : Int) + (z : Int) = ((1 + z : Nat) : Int) by omega]
      refine RS.call rfl ((spec_l01Powers p (1 + z) 0 0 _ _ ⟨hp1, hp2⟩ (by omega) (by omega) (by omega) (by omega)).mono ?_)
      rintro r H' nq1 hnq1 ⟨KZ, rfl, hKZ, he⟩
      rw [he]
      clear he
      (repeat first|refine zG ?_|(refine LS.nilO ?_;intro nq hnq hltq;try refine zU ?_)|(refine MS.new ?_;intro bq hbq hbqf;try refine zU ?_)|(refine MS.nil ?_;intro nq hnq hltq;have hlq:=hltq _ _ (Hp.get_eq _ _ _);clear hltq;try refine zU ?_)|(refine LS.nilQ ?_;try with_reducible intro nq hnq;try refine zU ?_))
      exact ⟨.arr 522 KZ, _, conc_arr (fun q hq => by rw [Nat.zero_add]; unfold splice; rw [if_pos (by omega), Nat.sub_zero]), Drops.refl _ _, KZ, p, _, rfl, hKZ, hp1, hp2, by omega, by omega, hS9.keep (Hp.get_set_other _ (by omega)), fun y hy hyb => by rw [Hp.get_set_other _ (by omega)]; exact lo9 y hy hyb⟩
  (repeat first|refine zG ?_|(refine LS.nilO ?_;intro nq hnq hltq;try refine zU ?_)|(refine MS.new ?_;intro bq hbq hbqf;try refine zU ?_)|(refine MS.nil ?_;intro nq hnq hltq;have hlq:=hltq _ _ (Hp.get_eq _ _ _);clear hltq;try refine zU ?_)|(refine LS.nilQ ?_;try with_reducible intro nq hnq;try refine zU ?_))
  refine RS.call rfl ((spec_l01Next m0 sv len f b t 3 _ _ hR hfb hlen (fun x hx => by rw [lo2 x (by omega) (by omega)]; exact hm x hx) hbm hS2).mono ?_)
  rintro r H9 n9 hn9 ⟨z, rfl, z0, z1, -, hS9, lo9'⟩
  replace z1 := z1 (by omega)
  have lo9 : ∀ y, y < n → y ≠ b → H9.get y = H.get y := fun y hy hyb => by rw [lo9' y hyb]; exact lo2 y hy hyb
  have gn9 : H9.get n = some kn := by rw [lo9' n (by omega)]; exact gn2
  obtain ⟨z, rfl⟩ := Int.eq_ofNat_of_zero_le z0
  (repeat first|refine zG ?_|(refine LS.nilO ?_;intro nq hnq hltq;try refine zU ?_)|(refine MS.new ?_;intro bq hbq hbqf;try refine zU ?_)|(refine MS.nil ?_;intro nq hnq hltq;have hlq:=hltq _ _ (Hp.get_eq _ _ _);clear hltq;try refine zU ?_)|(refine LS.nilQ ?_;try with_reducible intro nq hnq;try refine zU ?_))
  rw [show (1 : Int) + (z : Int) = ((1 + z : Nat) : Int) by omega]
  refine RS.call rfl ((spec_l01Powers p (1 + z) 0 0 _ _ ⟨hp1, hp2⟩ (by omega) (by omega) (by omega) (by omega)).mono ?_)
  rintro r H' nq1 hnq1 ⟨KZ, rfl, hKZ, he⟩
  rw [he]
  clear he
  (repeat first|refine zG ?_|(refine LS.nilO ?_;intro nq hnq hltq;try refine zU ?_)|(refine MS.new ?_;intro bq hbq hbqf;try refine zU ?_)|(refine MS.nil ?_;intro nq hnq hltq;have hlq:=hltq _ _ (Hp.get_eq _ _ _);clear hltq;try refine zU ?_)|(refine LS.nilQ ?_;try with_reducible intro nq hnq;try refine zU ?_))
  exact ⟨.arr 522 KZ, _, conc_arr (fun q hq => by rw [Nat.zero_add]; unfold splice; rw [if_pos (by omega), Nat.sub_zero]), Drops.refl _ _, KZ, p, _, rfl, hKZ, hp1, hp2, by omega, by omega, hS9.keep (Hp.get_set_other _ (by omega)), fun y hy hyb => by rw [Hp.get_set_other _ (by omega)]; exact lo9 y hy hyb⟩

end Go.Proofs.YtgnphaopeplfbaaGreatDoor

/- Steps of trees of orders (as in C63, C83). -/

namespace Go.V

variable [BW]

set_option linter.unusedSimpArgs false

set_option linter.unusedVariables false

section

variable {P : Program} {N mm : Nat} {e : Env} {H F : Hp} {n : Nat} {d : Option Nat} {K : Env → Hp → Prop}

theorem ST.mov {x : X} {v : AV} (hx : x.ev e = some v) (h : K (putD d v e) H) : ST P N mm ⟨d, none, .mov x⟩ e H F n K := ST.pure (by simp only [PV, hx]; exact h)

theorem ST.ck {x : X} {b o : Nat} (hx : x.ev e = some (.s (.ptr b o))) (h : K (putD d (.s (.ptr b o)) e) H) : ST P N mm ⟨d, none, .ck x⟩ e H F n K := ST.pure (by simp only [PV, hx]; exact h)

theorem ST.fa {x : X} {b o off : Nat} (hx : x.ev e = some (.s (.ptr b o))) (h : K (putD d (.s (.ptr b (o + off))) e) H) : ST P N mm ⟨d, none, .fa off x⟩ e H F n K := ST.pure (by simp only [PV, hx]; exact h)

theorem ST.ld1 {x : X} {b off : Nat} {k : Blk} {v : SV} (hx : x.ev e = some (.s (.ptr b off))) (hb : F.get b = some k) (ho : off < k.size) (hv : k.c off = v) (h : K (putD d (.s v) e) H) : ST P N mm ⟨d, none, .ld none x⟩ e H F n K :=
  ST.pure (by simp only [PV, hx, hb, ldV]; exact ⟨ho, by rw [hv]; exact h⟩)

theorem ST.ia {x i : X} {len sz b o j : Nat} {k : IntKind} (hx : x.ev e = some (.s (.ptr b o))) (hi : i.ev e = some (.s (.int k (j : Nat)))) (hj : j < len) (h : K (putD d (.s (.ptr b (o + sz * j))) e) H) : ST P N mm ⟨d, none, .ia len sz x i⟩ e H F n K :=
  ST.pure (by simp only [PV, hx, hi]; exact ⟨⟨by omega, by omega⟩, by rw [Int.toNat_natCast, Nat.mul_comm]; exact h⟩)

theorem ST.ldn {x : X} {z b off : Nat} {k : Blk} {c : Nat → SV} (hx : x.ev e = some (.s (.ptr b off))) (hb : F.get b = some k) (ho : off + z ≤ k.size) (hc : (fun j => k.c (off + j)) = c) (h : K (putD d (.arr z c) e) H) : ST P N mm ⟨d, none, .ld (some z) x⟩ e H F n K :=
  ST.pure (by simp only [PV, hx, hb, ldV]; exact ⟨ho, by rw [hc]; exact h⟩)

theorem ST.ex {x : X} {k : Nat} {l : List AV} {v : AV} (hx : x.ev e = some (.tup l)) (hl : l[k]? = some v) (h : K (putD d v e) H) : ST P N mm ⟨d, none, .ex x k⟩ e H F n K :=
  ST.pure (by simp only [PV, hx, hl]; exact h)

end

theorem Ext.push {F H : Hp} {b : Nat} (k : Blk) (hE : Ext F H) (hb : H.get b = none) : Ext F ((b, k) :: H) := fun b' k' h => by
  have := hE b' k' h
  rw [Hp.get_ne _ _ (fun q => by subst q; rw [hb] at this; cases this)]; exact this

section

variable {P : Program}

theorem FT.mono {N m : Nat} {ll : List Ins} {t : OT} {e : Env} {H F : Hp} {n : Nat} {K K2 : Env → Hp → Prop} (h : FT P N m ll t e H F n K) (hK : ∀ e' H', K e' H' → K2 e' H') : FT P N m ll t e H F n K2 :=
  ⟨fun ops eff hl hb a Ka hag hE hk => h.h ops eff hl hb a Ka hag hE fun e' a' H' q1 q2 q3 => hk e' a' H' (hK e' H' q1) q2 q3⟩

end

end Go.V
