/- Contracts of the program's functions. -/
import Derived.Test.YtbknndbfbebkdabGreatRR
import Derived.Test.YtbknndbfbebkdabGreatRLW
import Derived.Test.YtbknndbfbebkdabGreatRF0a
import Derived.Test.YtbknndbfbebkdabGreatRF0b
import Derived.Test.YtbknndbfbebkdabGreatRF0c
namespace Go.Proofs.YtbknndbfbebkdabGreatR
open Go.V
set_option linter.unusedSimpArgs false
set_option linter.unusedVariables false
set_option maxHeartbeats 4000000
/-- spec.l01Prime -/
def ir131 : Cd := (.seq (.reg [⟨some 2,none,.mov (.c (.bool false))⟩]) (.seq (.seq (.reg [⟨some 3,none,.mov (.c (.int .i64 2))⟩]) (.block 0 (.loop (.seq (.seq (.reg [⟨some 4,none,.mov (.t 3)⟩,⟨some 5,none,.mov (.t 0)⟩,⟨some 6,none,.bin .lss (.t 4) (.t 5)⟩,⟨some 7,none,.mov (.t 6)⟩,⟨some 8,(some (7,true)),.mov (.t 3)⟩,⟨some 9,(some (7,true)),.bin .leq (.t 8) (.c (.int .i64 31))⟩,⟨some 10,none,.pick (.t 7) (.t 9) (.c (.bool false))⟩]) (.cond (.t 10) .skip (.exit 0))) (.seq (.block 1 (.seq (.reg [⟨some 13,none,.mov (.t 0)⟩,⟨some 14,none,.mov (.t 3)⟩,⟨some 15,none,.bin .rem (.t 13) (.t 14)⟩,⟨some 16,none,.bin .eql (.t 15) (.c (.int .i64 0))⟩]) (.cond (.t 16) (.seq (.reg [⟨some 2,none,.mov (.c (.bool false))⟩]) .ret) .skip))) (.reg [⟨some 11,none,.mov (.t 3)⟩,⟨some 12,none,.bin .add (.t 11) (.c (.int .i64 1))⟩,⟨some 3,none,.mov (.t 12)⟩])))))) (.seq (.reg [⟨some 17,none,.mov (.t 0)⟩,⟨some 18,none,.call 132 [(.t 17),(.c (.int .i64 2)),(.c (.int .i64 31))]⟩,⟨some 2,none,.mov (.t 18)⟩]) .ret)))
set_option maxRecDepth 100000 in
theorem tr131 : trFn Tryz.prog Tryz.f131 = some (19, ir131, [.tmp 2]) := by kernel_rfl
theorem spec_l01Prime (p : Int) (H : Hp) (n : Nat) :
    FnS Tryz.prog 131 [i64 p] H n (fun v H' _ => v = bl (isP p) ∧ H' = H) := by
  refine FnS.of_body Tryz.func131 tr131 (by simp) (fun hf => ?_)
  dsimp only [argEnv]
  unfold ir131
  (repeat first|refine zG ?_|(refine LS.nilO ?_;intro nq hnq hltq;try refine zU ?_)|(refine MS.new ?_;intro bq hbq hbqf;try refine zU ?_)|(refine MS.nil ?_;intro nq hnq hltq;have hlq:=hltq _ _ (Hp.get_eq _ _ _);clear hltq;try refine zU ?_)|(refine LS.nilQ ?_;try with_reducible intro nq hnq;try refine zU ?_))
  refine CS.iter 31 (fun i => [(3, i64 (i + 2 : Nat)), (0, i64 p)]) (fun _ => H) (fun i => i < 31 ∧ ∀ k : Nat, 2 ≤ k → k < i + 2 → (k : Int) < p ∧ p % k ≠ 0) ⟨rfl, rfl, trivial⟩ (Drops.refl _ _) ⟨by omega, fun k h1 h2 => by omega⟩ ?_
  intro i n1 hi hn ⟨hi6, hJ⟩
  (repeat first|refine zG ?_|(refine LS.nilO ?_;intro nq hnq hltq;try refine zU ?_)|(refine MS.new ?_;intro bq hbq hbqf;try refine zU ?_)|(refine MS.nil ?_;intro nq hnq hltq;have hlq:=hltq _ _ (Hp.get_eq _ _ _);clear hltq;try refine zU ?_)|(refine LS.nilQ ?_;try with_reducible intro nq hnq;try refine zU ?_))
  have hend : ((p ≤ (i + 2 : Nat)) ∨ 31 < i + 2) → decide (2 ≤ p ∧ p ≤ 31) = isP p := by
    intro hh
    by_cases h1 : 2 ≤ p ∧ p ≤ 31
    · rw [isP_yes' h1.1 h1.2 (fun k h2 h3 => (hJ k h2 (by omega)).2)]
      simp [h1]
    · rw [isP_out (by omega)]
      simp [h1]
  refine RS.sp (t := 7) rfl (fun h => ?_) (fun h => ?_) <;> (try simp only [tb_eq, tb_eqF, decide_eq_true_eq, decide_eq_false_iff_not, beq_iff_eq, bne_iff_ne, ne_eq, Decidable.not_not, beq_eq_false_iff_ne, bne_eq_false_iff_eq, Bool.not_eq_true', Bool.not_eq_false', Bool.not_eq_eq_eq_not, Bool.not_true, Bool.not_false] at h)
  · (repeat first|refine zG ?_|(refine LS.nilO ?_;intro nq hnq hltq;try refine zU ?_)|(refine MS.new ?_;intro bq hbq hbqf;try refine zU ?_)|(refine MS.nil ?_;intro nq hnq hltq;have hlq:=hltq _ _ (Hp.get_eq _ _ _);clear hltq;try refine zU ?_)|(refine LS.nilQ ?_;try with_reducible intro nq hnq;try refine zU ?_))
    refine zI ?_ ?_<;>intro h2
    · skip
      (repeat first|refine zG ?_|(refine LS.nilO ?_;intro nq hnq hltq;try refine zU ?_)|(refine MS.new ?_;intro bq hbq hbqf;try refine zU ?_)|(refine MS.nil ?_;intro nq hnq hltq;have hlq:=hltq _ _ (Hp.get_eq _ _ _);clear hltq;try refine zU ?_)|(refine LS.nilQ ?_;try with_reducible intro nq hnq;try refine zU ?_))
      refine zI ?_ ?_<;>intro h4
      · skip
        (repeat first|refine zG ?_|(refine LS.nilO ?_;intro nq hnq hltq;try refine zU ?_)|(refine MS.new ?_;intro bq hbq hbqf;try refine zU ?_)|(refine MS.nil ?_;intro nq hnq hltq;have hlq:=hltq _ _ (Hp.get_eq _ _ _);clear hltq;try refine zU ?_)|(refine LS.nilQ ?_;try with_reducible intro nq hnq;try refine zU ?_))
        exact ⟨_, H, rfl, by exact zD, by rw [isP_div (k := i + 2) (by omega) h h4], rfl⟩
      · skip
        (repeat first|refine zG ?_|(refine LS.nilO ?_;intro nq hnq hltq;try refine zU ?_)|(refine MS.new ?_;intro bq hbq hbqf;try refine zU ?_)|(refine MS.nil ?_;intro nq hnq hltq;have hlq:=hltq _ _ (Hp.get_eq _ _ _);clear hltq;try refine zU ?_)|(refine LS.nilQ ?_;try with_reducible intro nq hnq;try refine zU ?_))
        refine ⟨by omega, by (repeat first | exact trivial | refine And.intro rfl ?_), by exact zD, by omega, fun k h5 h6 => ?_⟩
        by_cases h7 : k < i + 2
        · exact hJ k h5 h7
        · have : k = i + 2 := by omega
          subst this
          exact ⟨h, h4⟩
    · skip
      (repeat first|refine zG ?_|(refine LS.nilO ?_;intro nq hnq hltq;try refine zU ?_)|(refine MS.new ?_;intro bq hbq hbqf;try refine zU ?_)|(refine MS.nil ?_;intro nq hnq hltq;have hlq:=hltq _ _ (Hp.get_eq _ _ _);clear hltq;try refine zU ?_)|(refine LS.nilQ ?_;try with_reducible intro nq hnq;try refine zU ?_))
      refine RS.call rfl ((spec_l01In _ _ _ _ _).mono ?_)
      rintro v H' n2 hn2 ⟨rfl, rfl⟩
      (repeat first|refine zG ?_|(refine LS.nilO ?_;intro nq hnq hltq;try refine zU ?_)|(refine MS.new ?_;intro bq hbq hbqf;try refine zU ?_)|(refine MS.nil ?_;intro nq hnq hltq;have hlq:=hltq _ _ (Hp.get_eq _ _ _);clear hltq;try refine zU ?_)|(refine LS.nilQ ?_;try with_reducible intro nq hnq;try refine zU ?_))
      exact ⟨_, _, rfl, by exact zD, congrArg bl (hend (by omega)), rfl⟩
  · (repeat first|refine zG ?_|(refine LS.nilO ?_;intro nq hnq hltq;try refine zU ?_)|(refine MS.new ?_;intro bq hbq hbqf;try refine zU ?_)|(refine MS.nil ?_;intro nq hnq hltq;have hlq:=hltq _ _ (Hp.get_eq _ _ _);clear hltq;try refine zU ?_)|(refine LS.nilQ ?_;try with_reducible intro nq hnq;try refine zU ?_))
    refine RS.call rfl ((spec_l01In _ _ _ _ _).mono ?_)
    rintro v H' n2 hn2 ⟨rfl, rfl⟩
    (repeat first|refine zG ?_|(refine LS.nilO ?_;intro nq hnq hltq;try refine zU ?_)|(refine MS.new ?_;intro bq hbq hbqf;try refine zU ?_)|(refine MS.nil ?_;intro nq hnq hltq;have hlq:=hltq _ _ (Hp.get_eq _ _ _);clear hltq;try refine zU ?_)|(refine LS.nilQ ?_;try with_reducible intro nq hnq;try refine zU ?_))
    exact ⟨_, _, rfl, by exact zD, congrArg bl (hend (by omega)), rfl⟩
/-- spec.l01Linear -/
def ir45 : Cd := (.seq (.reg [⟨some 5,none,.box 29 (.t 2)⟩,⟨some 6,none,.mov (.c (.bool false))⟩]) (.seq (.seq (.reg [⟨some 7,none,.mov (.c (.int .i64 0))⟩]) (.block 0 (.loop (.seq (.seq (.reg [⟨some 8,none,.mov (.t 7)⟩,⟨some 9,none,.bin .lss (.t 8) (.c (.int .i64 8))⟩]) (.cond (.t 9) .skip (.exit 0))) (.seq (.block 1 (.seq (.reg [⟨some 12,none,.mov (.t 0)⟩,⟨some 13,none,.mov (.t 1)⟩,⟨some 14,none,.mov (.t 7)⟩,⟨some 15,none,.ia 8 8 (.t 5) (.t 14)⟩,⟨some 16,none,.ld (some 8) (.t 15)⟩,⟨some 17,none,.call 69 [(.t 12),(.t 13),(.t 16)]⟩,⟨some 18,none,.un .not (.t 17)⟩,⟨some 19,none,.mov (.t 18)⟩,⟨some 20,(some (19,false)),.mov (.t 7)⟩,⟨some 21,(some (19,false)),.mov (.t 1)⟩,⟨some 22,(some (19,false)),.bin .geq (.t 20) (.t 21)⟩,⟨some 23,(some (19,false)),.mov (.t 22)⟩,⟨some 24,(some (23,true)),.mov (.t 7)⟩,⟨some 25,(some (23,true)),.ia 8 8 (.t 5) (.t 24)⟩,⟨some 26,(some (23,true)),.ld (some 8) (.t 25)⟩,⟨some 27,(some (23,true)),.build 8 [(8,(.int .u8 0))] []⟩,⟨some 28,(some (23,true)),.eqa true 8 (.t 26) (.t 27)⟩,⟨some 29,(some (19,false)),.pick (.t 23) (.t 28) (.c (.bool false))⟩,⟨some 30,none,.pick (.t 19) (.c (.bool true)) (.t 29)⟩]) (.cond (.t 30) (.seq (.reg [⟨some 6,none,.mov (.c (.bool false))⟩]) .ret) .skip))) (.reg [⟨some 10,none,.mov (.t 7)⟩,⟨some 11,none,.bin .add (.t 10) (.c (.int .i64 1))⟩,⟨some 7,none,.mov (.t 11)⟩])))))) (.seq (.reg [⟨some 6,none,.mov (.c (.bool true))⟩]) .ret)))
set_option maxRecDepth 100000 in
theorem tr45 : trFn Tryz.prog Tryz.f45 = some (31, ir45, [.tmp 6]) := by kernel_rfl
theorem spec_l01Linear (p n' : Int) (l : Nat → Int) (H : Hp) (n : Nat) (hl : isBy 64 l) :
    FnS Tryz.prog 45 [i64 p, i64 n', .arr 64 (bys l)] H n (fun r H' _ => r = bl (tb (isLin p n' n' l)) ∧ H' = H) := by
  have hk : ∀ i, i < 64 → bys l (0 + i) = .int .u8 (l i) := fun i _ => by rw [Nat.zero_add]; rfl
  refine FnS.of_body Tryz.func45 tr45 (by simp) (fun hf => ?_)
  dsimp only [argEnv]
  unfold ir45
  (repeat first|refine zG ?_|(refine LS.nilO ?_;intro nq hnq hltq;try refine zU ?_)|(refine MS.new ?_;intro bq hbq hbqf;try refine zU ?_)|(refine MS.nil ?_;intro nq hnq hltq;have hlq:=hltq _ _ (Hp.get_eq _ _ _);clear hltq;try refine zU ?_)|(refine LS.nilQ ?_;try with_reducible intro nq hnq;try refine zU ?_))
  refine CS.iter 8 (fun i => [(7, i64 i), (5, ptr n 0), (0, i64 p), (1, i64 n')]) (fun _ => (n, ⟨64, bys l, 29⟩) :: H) (fun i => ∀ j : Nat, j < i → isVec p n' (fun x => l (8 * j + x)) ∧ (n' ≤ j → ∀ x, x < 8 → l (8 * j + x) = 0)) (by (repeat first | exact trivial | refine And.intro rfl ?_)) (Drops.refl _ _) (fun j hj => by omega) ?_
  intro i n1 hi hn hJ
  (repeat first|refine zG ?_|(refine LS.nilO ?_;intro nq hnq hltq;try refine zU ?_)|(refine MS.new ?_;intro bq hbq hbqf;try refine zU ?_)|(refine MS.nil ?_;intro nq hnq hltq;have hlq:=hltq _ _ (Hp.get_eq _ _ _);clear hltq;try refine zU ?_)|(refine LS.nilQ ?_;try with_reducible intro nq hnq;try refine zU ?_))
  refine zI ?_ ?_<;>intro h1
  · (repeat first|refine zG ?_|(refine LS.nilO ?_;intro nq hnq hltq;try refine zU ?_)|(refine MS.new ?_;intro bq hbq hbqf;try refine zU ?_)|(refine MS.nil ?_;intro nq hnq hltq;have hlq:=hltq _ _ (Hp.get_eq _ _ _);clear hltq;try refine zU ?_)|(refine LS.nilQ ?_;try with_reducible intro nq hnq;try refine zU ?_))
    refine RS.call rfl ((spec_l01Vector p n' (fun x => l (8 * i + x)) _ _ (fun x hx => hl _ (by omega))).mono ?_)
    rintro r H' n2 hn2 ⟨rfl, rfl⟩
    (repeat first|refine zG ?_|(refine LS.nilO ?_;intro nq hnq hltq;try refine zU ?_)|(refine MS.new ?_;intro bq hbq hbqf;try refine zU ?_)|(refine MS.nil ?_;intro nq hnq hltq;have hlq:=hltq _ _ (Hp.get_eq _ _ _);clear hltq;try refine zU ?_)|(refine LS.nilQ ?_;try with_reducible intro nq hnq;try refine zU ?_))
    refine RS.sp (t := 19) rfl (fun h2 => ?_) (fun h2 => ?_) <;> (try simp only [tb_eq, tb_eqF, decide_eq_true_eq, decide_eq_false_iff_not, beq_iff_eq, bne_iff_ne, ne_eq, Decidable.not_not, beq_eq_false_iff_ne, bne_eq_false_iff_eq, Bool.not_eq_true', Bool.not_eq_false', Bool.not_eq_eq_eq_not, Bool.not_true, Bool.not_false] at h2)
    · (repeat first|refine zG ?_|(refine LS.nilO ?_;intro nq hnq hltq;try refine zU ?_)|(refine MS.new ?_;intro bq hbq hbqf;try refine zU ?_)|(refine MS.nil ?_;intro nq hnq hltq;have hlq:=hltq _ _ (Hp.get_eq _ _ _);clear hltq;try refine zU ?_)|(refine LS.nilQ ?_;try with_reducible intro nq hnq;try refine zU ?_))
      exact ⟨_, H, rfl, by exact zD, by rw [tb_false (fun h => h2 (h i (by omega)).1)], rfl⟩
    · (repeat first|refine zG ?_|(refine LS.nilO ?_;intro nq hnq hltq;try refine zU ?_)|(refine MS.new ?_;intro bq hbq hbqf;try refine zU ?_)|(refine MS.nil ?_;intro nq hnq hltq;have hlq:=hltq _ _ (Hp.get_eq _ _ _);clear hltq;try refine zU ?_)|(refine LS.nilQ ?_;try with_reducible intro nq hnq;try refine zU ?_))
      refine RS.sp (t := 23) rfl (fun h3 => ?_) (fun h3 => ?_) <;> (try simp only [tb_eq, tb_eqF, decide_eq_true_eq, decide_eq_false_iff_not, beq_iff_eq, bne_iff_ne, ne_eq, Decidable.not_not, beq_eq_false_iff_ne, bne_eq_false_iff_eq, Bool.not_eq_true', Bool.not_eq_false', Bool.not_eq_eq_eq_not, Bool.not_true, Bool.not_false] at h3)
      · (repeat first|refine zG ?_|(refine LS.nilO ?_;intro nq hnq hltq;try refine zU ?_)|(refine MS.new ?_;intro bq hbq hbqf;try refine zU ?_)|(refine MS.nil ?_;intro nq hnq hltq;have hlq:=hltq _ _ (Hp.get_eq _ _ _);clear hltq;try refine zU ?_)|(refine LS.nilQ ?_;try with_reducible intro nq hnq;try refine zU ?_))
        refine zI ?_ ?_<;>intro h4
        · (repeat first|refine zG ?_|(refine LS.nilO ?_;intro nq hnq hltq;try refine zU ?_)|(refine MS.new ?_;intro bq hbq hbqf;try refine zU ?_)|(refine MS.nil ?_;intro nq hnq hltq;have hlq:=hltq _ _ (Hp.get_eq _ _ _);clear hltq;try refine zU ?_)|(refine LS.nilQ ?_;try with_reducible intro nq hnq;try refine zU ?_))
          exact ⟨_, H, rfl, by exact zD, by rw [tb_false (fun h => h4 (fun x hx => (h i (by omega)).2 (by omega) x hx))], rfl⟩
        · (repeat first|refine zG ?_|(refine LS.nilO ?_;intro nq hnq hltq;try refine zU ?_)|(refine MS.new ?_;intro bq hbq hbqf;try refine zU ?_)|(refine MS.nil ?_;intro nq hnq hltq;have hlq:=hltq _ _ (Hp.get_eq _ _ _);clear hltq;try refine zU ?_)|(refine LS.nilQ ?_;try with_reducible intro nq hnq;try refine zU ?_))
          refine ⟨by omega, by (repeat first | exact trivial | refine And.intro rfl ?_), by exact zD, fun j hj => ?_⟩
          by_cases e : j < i
          · exact hJ j e
          · have : j = i := by omega
            subst this; exact ⟨h2, fun _ => h4⟩
      · (repeat first|refine zG ?_|(refine LS.nilO ?_;intro nq hnq hltq;try refine zU ?_)|(refine MS.new ?_;intro bq hbq hbqf;try refine zU ?_)|(refine MS.nil ?_;intro nq hnq hltq;have hlq:=hltq _ _ (Hp.get_eq _ _ _);clear hltq;try refine zU ?_)|(refine LS.nilQ ?_;try with_reducible intro nq hnq;try refine zU ?_))
        refine ⟨by omega, by (repeat first | exact trivial | refine And.intro rfl ?_), by exact zD, fun j hj => ?_⟩
        by_cases e : j < i
        · exact hJ j e
        · have : j = i := by omega
          subst this; exact ⟨h2, fun h => by omega⟩
  · (repeat first|refine zG ?_|(refine LS.nilO ?_;intro nq hnq hltq;try refine zU ?_)|(refine MS.new ?_;intro bq hbq hbqf;try refine zU ?_)|(refine MS.nil ?_;intro nq hnq hltq;have hlq:=hltq _ _ (Hp.get_eq _ _ _);clear hltq;try refine zU ?_)|(refine LS.nilQ ?_;try with_reducible intro nq hnq;try refine zU ?_))
    exact ⟨_, H, rfl, by exact zD, by rw [tb_true (show isLin p n' n' l from fun j hj => hJ j (by omega))], rfl⟩
/-- (*impl.Coalgebra).isFault -/
def ir140 : Cd := (.seq (.reg [⟨some 10,none,.mov (.c (.bool false))⟩]) (.seq (.reg [⟨some 15,none,.mov (.t 0)⟩,⟨some 16,none,.call 138 [(.t 15)]⟩,⟨some 11,none,.new 85 [(2,(.int .i64 0))]⟩,⟨none,none,.st 2 (.t 11) (.t 16)⟩,⟨some 12,none,.mov (.c (.int .i64 0))⟩,⟨some 13,none,.mov (.c (.int .i64 0))⟩]) (.seq (.seq (.reg [⟨some 17,none,.fa 1 (.t 11)⟩,⟨some 18,none,.ld none (.t 17)⟩,⟨some 19,none,.mov (.c (.int .i64 0))⟩]) (.block 0 (.loop (.seq (.reg [⟨some 20,none,.bin .lss (.t 19) (.t 18)⟩]) (.seq (.cond (.t 20) .skip (.exit 0)) (.seq (.block 1 (.seq (.reg [⟨some 21,none,.mov (.t 19)⟩,⟨some 14,none,.mov (.t 21)⟩]) (.seq (.drw true [] [⟨some 22,none,.mov (.t 12)⟩,⟨some 23,none,.mov (.t 0)⟩,⟨some 24,none,.mov (.t 1)⟩,⟨some 25,none,.mov (.t 14)⟩,⟨some 26,none,.mov (.t 4)⟩,⟨some 27,none,.ck (.t 23)⟩,⟨some 28,none,.fa 10 (.t 27)⟩,⟨some 29,none,.ia 8 64 (.t 28) (.t 24)⟩,⟨some 30,none,.ia 8 8 (.t 29) (.t 25)⟩,⟨some 31,none,.ia 8 1 (.t 30) (.t 26)⟩,⟨some 32,none,.ld none (.t 31)⟩,⟨some 33,none,.cv .i64 (.t 32)⟩,⟨some 34,none,.mov (.t 0)⟩,⟨some 35,none,.mov (.t 14)⟩,⟨some 36,none,.mov (.t 2)⟩,⟨some 37,none,.mov (.t 3)⟩,⟨some 38,none,.ck (.t 34)⟩,⟨some 39,none,.fa 10 (.t 38)⟩,⟨some 40,none,.ia 8 64 (.t 39) (.t 35)⟩,⟨some 41,none,.ia 8 8 (.t 40) (.t 36)⟩,⟨some 42,none,.ia 8 1 (.t 41) (.t 37)⟩,⟨some 43,none,.ld none (.t 42)⟩,⟨some 44,none,.cv .i64 (.t 43)⟩,⟨some 45,none,.bin .mul (.t 33) (.t 44)⟩,⟨some 46,none,.bin .add (.t 22) (.t 45)⟩,⟨some 12,none,.mov (.t 46)⟩]) (.drw true [] [⟨some 47,none,.mov (.t 13)⟩,⟨some 48,none,.mov (.t 0)⟩,⟨some 49,none,.mov (.t 1)⟩,⟨some 50,none,.mov (.t 2)⟩,⟨some 51,none,.mov (.t 14)⟩,⟨some 52,none,.ck (.t 48)⟩,⟨some 53,none,.fa 10 (.t 52)⟩,⟨some 54,none,.ia 8 64 (.t 53) (.t 49)⟩,⟨some 55,none,.ia 8 8 (.t 54) (.t 50)⟩,⟨some 56,none,.ia 8 1 (.t 55) (.t 51)⟩,⟨some 57,none,.ld none (.t 56)⟩,⟨some 58,none,.cv .i64 (.t 57)⟩,⟨some 59,none,.mov (.t 0)⟩,⟨some 60,none,.mov (.t 14)⟩,⟨some 61,none,.mov (.t 3)⟩,⟨some 62,none,.mov (.t 4)⟩,⟨some 63,none,.ck (.t 59)⟩,⟨some 64,none,.fa 10 (.t 63)⟩,⟨some 65,none,.ia 8 64 (.t 64) (.t 60)⟩,⟨some 66,none,.ia 8 8 (.t 65) (.t 61)⟩,⟨some 67,none,.ia 8 1 (.t 66) (.t 62)⟩,⟨some 68,none,.ld none (.t 67)⟩,⟨some 69,none,.cv .i64 (.t 68)⟩,⟨some 70,none,.bin .mul (.t 58) (.t 69)⟩,⟨some 71,none,.bin .add (.t 47) (.t 70)⟩,⟨some 13,none,.mov (.t 71)⟩])))) (.reg [⟨some 72,none,.bin .add (.t 19) (.c (.int .i64 1))⟩,⟨some 19,none,.mov (.t 72)⟩]))))))) (.seq (.drw true [] [⟨some 73,none,.mov (.t 12)⟩,⟨some 74,none,.fa 0 (.t 11)⟩,⟨some 75,none,.ld none (.t 74)⟩,⟨some 76,none,.bin .rem (.t 73) (.t 75)⟩,⟨some 77,none,.mov (.t 13)⟩,⟨some 78,none,.fa 0 (.t 11)⟩,⟨some 79,none,.ld none (.t 78)⟩,⟨some 80,none,.bin .rem (.t 77) (.t 79)⟩,⟨some 81,none,.bin .neq (.t 76) (.t 80)⟩,⟨some 10,none,.mov (.t 81)⟩]) .ret))))
set_option maxRecDepth 100000 in
theorem tr140 : trFn Tryz.prog Tryz.f140 = some (82, ir140, [.tmp 10]) := by kernel_rfl
theorem Coalgebra_isFault (p : Int) (a i j k l : Nat) (ii jj kk ll : Int) (c : Nat → Int) (b : Nat) (K : Blk) (H : Hp) (n : Nat) (hp : 2 ≤ p ∧ p ≤ 31) (ha : a ≤ 8) (hi : i < a ∧ ii = i) (hj : j < a ∧ jj = j) (hk : k < a ∧ kk = k) (hl : l < a ∧ ll = l)
    (hb : H.get b = some K) (hsz : K.size = 522) (h0 : K.c 0 = .int .i64 p) (h1 : K.c 1 = .int .i64 a) (hK : ∀ q, q < 512 → K.c (10 + q) = .int .u8 (c q)) (hc : isBy 512 c) :
    FnS Tryz.prog 140 [ptr b 0, i64 ii, i64 jj, i64 kk, i64 ll] H n (fun r H' _ => r = bl (!tb (cosum1 p c i j k l a = cosum2 p c i j k l a)) ∧ H' = H) := by
  obtain ⟨hi, rfl⟩ := hi
  obtain ⟨hj, rfl⟩ := hj
  obtain ⟨hk, rfl⟩ := hk
  obtain ⟨hl, rfl⟩ := hl
  refine FnS.of_body Tryz.func140 tr140 (by simp) (fun hf => ?_)
  dsimp only [argEnv]
  unfold ir140
  have hbn := getlt hf hb
  (repeat first|refine zG ?_|(refine LS.nilO ?_;intro nq hnq hltq;try refine zU ?_)|(refine MS.new ?_;intro bq hbq hbqf;try refine zU ?_)|(refine MS.nil ?_;intro nq hnq hltq;have hlq:=hltq _ _ (Hp.get_eq _ _ _);clear hltq;try refine zU ?_)|(refine LS.nilQ ?_;try with_reducible intro nq hnq;try refine zU ?_))
  refine RS.call rfl ((Coalgebra_field p a b K _ _ (by exact zH) hsz h0 h1 (by omega)).mono ?_)
  rintro r H n2 hn2 ⟨rfl, rfl⟩
  (repeat first|refine zG ?_|(refine LS.nilO ?_;intro nq hnq hltq;try refine zU ?_)|(refine MS.new ?_;intro bq hbq hbqf;try refine zU ?_)|(refine MS.nil ?_;intro nq hnq hltq;have hlq:=hltq _ _ (Hp.get_eq _ _ _);clear hltq;try refine zU ?_)|(refine LS.nilQ ?_;try with_reducible intro nq hnq;try refine zU ?_))
  refine CS.iter a (fun x => [(19, i64 x), (18, i64 a), (12, i64 (sm (fun a => c (64 * i + 8 * a + l) * c (64 * a + 8 * j + k)) x)), (13, i64 (sm (fun a => c (64 * i + 8 * j + a) * c (64 * a + 8 * k + l)) x)), (11, ptr n2 0), (0, ptr b 0), (1, i64 i), (2, i64 j), (3, i64 k), (4, i64 l)])
    (fun _ => (n2, ⟨2, fldC p a, 85⟩) :: H) (fun _ => True) (by (repeat first | exact trivial | refine And.intro rfl ?_)) (by exact zD) trivial ?_
  intro x n3 hx hn _
  have hs1 := sm_b (f := fun a => c (64 * i + 8 * a + l) * c (64 * a + 8 * j + k)) (B := 65025) (n := x) (fun q hq => by
    have h1 := hc (64 * i + 8 * q + l) (by omega)
    have h2 := hc (64 * q + 8 * j + k) (by omega)
    exact mulB h1.1 h1.2 h2.1 h2.2)
  have hs2 := sm_b (f := fun a => c (64 * i + 8 * j + a) * c (64 * a + 8 * k + l)) (B := 65025) (n := x) (fun q hq => by
    have h1 := hc (64 * i + 8 * j + q) (by omega)
    have h2 := hc (64 * q + 8 * k + l) (by omega)
    exact mulB h1.1 h1.2 h2.1 h2.2)
  (repeat first|refine zG ?_|(refine LS.nilO ?_;intro nq hnq hltq;try refine zU ?_)|(refine MS.new ?_;intro bq hbq hbqf;try refine zU ?_)|(refine MS.nil ?_;intro nq hnq hltq;have hlq:=hltq _ _ (Hp.get_eq _ _ _);clear hltq;try refine zU ?_)|(refine LS.nilQ ?_;try with_reducible intro nq hnq;try refine zU ?_))
  refine zI ?_ ?_<;>intro h2
  · have g1 := hc (64 * i + 8 * x + l) (by omega)
    have g2 := hc (64 * x + 8 * j + k) (by omega)
    have g3 := mulB g1.1 g1.2 g2.1 g2.2
    have g4 := hc (64 * i + 8 * j + x) (by omega)
    have g5 := hc (64 * x + 8 * k + l) (by omega)
    have g6 := mulB g4.1 g4.2 g5.1 g5.2
    (repeat first|refine zG ?_|(refine LS.nilO ?_;intro nq hnq hltq;try refine zU ?_)|(refine MS.new ?_;intro bq hbq hbqf;try refine zU ?_)|(refine MS.nil ?_;intro nq hnq hltq;have hlq:=hltq _ _ (Hp.get_eq _ _ _);clear hltq;try refine zU ?_)|(refine LS.nilQ ?_;try with_reducible intro nq hnq;try refine zU ?_))
    exact ⟨by omega, by (repeat first | exact trivial | refine And.intro rfl ?_), Drops.refl _ _, trivial⟩
  · have : x = a := by omega
    subst this
    (repeat first|refine zG ?_|(refine LS.nilO ?_;intro nq hnq hltq;try refine zU ?_)|(refine MS.new ?_;intro bq hbq hbqf;try refine zU ?_)|(refine MS.nil ?_;intro nq hnq hltq;have hlq:=hltq _ _ (Hp.get_eq _ _ _);clear hltq;try refine zU ?_)|(refine LS.nilQ ?_;try with_reducible intro nq hnq;try refine zU ?_))
    exact ⟨_, H, rfl, by exact zD, by rw [tb_dec]; rfl, rfl⟩
/-- laws.toLinear -/
def ir9 : Cd := (.seq (.reg [⟨some 1,none,.box 23 (.t 0)⟩,⟨some 2,none,.new 29 [(64,(.int .u8 0))]⟩]) (.seq (.reg [⟨some 3,none,.new 29 [(64,(.int .u8 0))]⟩]) (.seq (.seq (.reg [⟨some 4,none,.mov (.c (.int .i64 0))⟩]) (.block 0 (.loop (.seq (.seq (.reg [⟨some 5,none,.mov (.t 4)⟩,⟨some 6,none,.bin .lss (.t 5) (.c (.int .i64 8))⟩]) (.cond (.t 6) .skip (.exit 0))) (.seq (.block 1 (.reg [⟨some 9,none,.mov (.t 4)⟩,⟨some 10,none,.mov (.t 4)⟩,⟨some 11,none,.ia 8 8 (.t 1) (.t 10)⟩,⟨some 12,none,.ld (some 8) (.t 11)⟩,⟨some 13,none,.call 22 [(.t 12)]⟩,⟨some 14,none,.ia 8 8 (.t 3) (.t 9)⟩,⟨none,none,.st 8 (.t 14) (.t 13)⟩])) (.reg [⟨some 7,none,.mov (.t 4)⟩,⟨some 8,none,.bin .add (.t 7) (.c (.int .i64 1))⟩,⟨some 4,none,.mov (.t 8)⟩])))))) (.seq (.reg [⟨some 15,none,.ld (some 64) (.t 3)⟩,⟨none,none,.st 64 (.t 2) (.t 15)⟩]) .ret))))
set_option maxRecDepth 100000 in
theorem tr9 : trFn Tryz.prog Tryz.f9 = some (16, ir9, [.cell (some 64) 2]) := by kernel_rfl
theorem laws_toLinear (l : Nat → Int) (H : Hp) (n : Nat) :
    FnS Tryz.prog 9 [.arr 64 (bys l)] H n (fun r H' _ => r = .arr 64 (bys l) ∧ H' = H) := by
  refine FnS.of_body Tryz.func9 tr9 (by simp) (fun hf => ?_)
  dsimp only [argEnv]
  unfold ir9
  (repeat first|refine zG ?_|(refine LS.nilO ?_;intro nq hnq hltq;try refine zU ?_)|(refine MS.new ?_;intro bq hbq hbqf;try refine zU ?_)|(refine MS.nil ?_;intro nq hnq hltq;have hlq:=hltq _ _ (Hp.get_eq _ _ _);clear hltq;try refine zU ?_)|(refine LS.nilQ ?_;try with_reducible intro nq hnq;try refine zU ?_))
  refine CS.iter 8 (fun i => [(4, i64 i), (1, ptr n 0), (2, ptr (n + 1) 0), (3, ptr (n + 2) 0)])
    (fun i => (n + 2, ⟨64, bys (rowsTo (fun _ => 0) l i), 29⟩) :: (n + 1, ⟨64, bys (fun _ => 0), 29⟩) :: (n, ⟨64, bys l, 23⟩) :: H) (fun _ => True) (by (repeat first | exact trivial | refine And.intro rfl ?_))
    (Drops.keepc rfl rfl (fun _ _ => by rw [rowsTo_zero]; rfl) (Drops.keepc rfl rfl (fun _ _ => rfl) (Drops.refl _ _))) trivial ?_
  intro i n1 hi hn _
  have hk : ∀ q, q < 64 → (bys l) (0 + q) = .int .u8 (l q) := fun q hq => by rw [Nat.zero_add]; rfl
  (repeat first|refine zG ?_|(refine LS.nilO ?_;intro nq hnq hltq;try refine zU ?_)|(refine MS.new ?_;intro bq hbq hbqf;try refine zU ?_)|(refine MS.nil ?_;intro nq hnq hltq;have hlq:=hltq _ _ (Hp.get_eq _ _ _);clear hltq;try refine zU ?_)|(refine LS.nilQ ?_;try with_reducible intro nq hnq;try refine zU ?_))
  refine zI ?_ ?_<;>intro h1
  · have hr : ∀ q, q < 8 → (bys l) (8 * i + q) = .int .u8 (l (8 * i + q)) := fun q hq => rfl
    (repeat first|refine zG ?_|(refine LS.nilO ?_;intro nq hnq hltq;try refine zU ?_)|(refine MS.new ?_;intro bq hbq hbqf;try refine zU ?_)|(refine MS.nil ?_;intro nq hnq hltq;have hlq:=hltq _ _ (Hp.get_eq _ _ _);clear hltq;try refine zU ?_)|(refine LS.nilQ ?_;try with_reducible intro nq hnq;try refine zU ?_))
    refine RS.call rfl ((laws_toVector (fun x => l (8 * i + x)) _ _).mono ?_)
    rintro r H' n2 hn2 ⟨rfl, rfl⟩
    (repeat first|refine zG ?_|(refine LS.nilO ?_;intro nq hnq hltq;try refine zU ?_)|(refine MS.new ?_;intro bq hbq hbqf;try refine zU ?_)|(refine MS.nil ?_;intro nq hnq hltq;have hlq:=hltq _ _ (Hp.get_eq _ _ _);clear hltq;try refine zU ?_)|(refine LS.nilQ ?_;try with_reducible intro nq hnq;try refine zU ?_))
    exact ⟨by omega, by (repeat first | exact trivial | refine And.intro rfl ?_), Drops.keepc rfl rfl (fun q hq => rowsTo_step (fun y hy => rfl) q) (Drops.refl _ _), trivial⟩
  · have : i = 8 := by omega
    subst this
    (repeat first|refine zG ?_|(refine LS.nilO ?_;intro nq hnq hltq;try refine zU ?_)|(refine MS.new ?_;intro bq hbq hbqf;try refine zU ?_)|(refine MS.nil ?_;intro nq hnq hltq;have hlq:=hltq _ _ (Hp.get_eq _ _ _);clear hltq;try refine zU ?_)|(refine LS.nilQ ?_;try with_reducible intro nq hnq;try refine zU ?_))
    exact ⟨.arr 64 (bys l), H, conc_arr (fun q hq => by simp only [Nat.zero_add, bys, rowsTo]; rw [if_pos (by omega)]), by exact zD, rfl, rfl⟩
end Go.Proofs.YtbknndbfbebkdabGreatR
