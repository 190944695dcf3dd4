/- Contracts of the program's functions. -/
import Derived.Test.YtbknndbfbebkdabGreatRR
import Derived.Test.YtbknndbfbebkdabGreatRLW
import Derived.Test.YtbknndbfbebkdabGreatRF2a
import Derived.Test.YtbknndbfbebkdabGreatRF2b
import Derived.Test.YtbknndbfbebkdabGreatRF2c
namespace Go.Proofs.YtbknndbfbebkdabGreatR
open Go.V
set_option linter.unusedSimpArgs false
set_option linter.unusedVariables false
set_option maxHeartbeats 4000000
/-- impl.isTable -/
def ir123 : Cd := (.seq (.reg [⟨some 6,none,.mov (.c (.bool false))⟩]) (.seq (.seq (.reg [⟨some 8,none,.mov (.c (.int .i64 0))⟩]) (.block 0 (.loop (.seq (.reg [⟨some 9,none,.bin .lss (.t 8) (.c (.int .i64 8))⟩]) (.seq (.cond (.t 9) .skip (.exit 0)) (.seq (.block 1 (.seq (.reg [⟨some 10,none,.mov (.t 8)⟩,⟨some 7,none,.mov (.t 10)⟩]) (.seq (.reg [⟨some 11,none,.mov (.t 0)⟩,⟨some 12,none,.mov (.t 1)⟩,⟨some 13,none,.mov (.t 1)⟩,⟨some 14,none,.mov (.t 2)⟩,⟨some 15,none,.mov (.t 7)⟩,⟨some 16,none,.ck (.t 14)⟩,⟨some 17,none,.ia 8 64 (.t 16) (.t 15)⟩,⟨some 18,none,.call 59 [(.t 11),(.t 12),(.t 13),(.t 17)]⟩,⟨some 19,none,.un .not (.t 18)⟩,⟨some 20,none,.mov (.t 19)⟩,⟨some 21,(some (20,false)),.mov (.t 7)⟩,⟨some 22,(some (20,false)),.mov (.t 1)⟩,⟨some 23,(some (20,false)),.bin .geq (.t 21) (.t 22)⟩,⟨some 24,(some (20,false)),.mov (.t 23)⟩,⟨some 25,(some (24,true)),.mov (.t 2)⟩,⟨some 26,(some (24,true)),.mov (.t 7)⟩,⟨some 27,(some (24,true)),.ck (.t 25)⟩,⟨some 28,(some (24,true)),.ia 8 64 (.t 27) (.t 26)⟩,⟨some 29,(some (24,true)),.ld (some 64) (.t 28)⟩,⟨some 30,(some (24,true)),.build 64 [(64,(.int .u8 0))] []⟩,⟨some 31,(some (24,true)),.eqa true 64 (.t 29) (.t 30)⟩,⟨some 32,(some (20,false)),.pick (.t 24) (.t 31) (.c (.bool false))⟩,⟨some 33,none,.pick (.t 20) (.c (.bool true)) (.t 32)⟩]) (.cond (.t 33) (.seq (.reg [⟨some 6,none,.mov (.c (.bool false))⟩]) .ret) .skip)))) (.reg [⟨some 34,none,.bin .add (.t 8) (.c (.int .i64 1))⟩,⟨some 8,none,.mov (.t 34)⟩]))))))) (.seq (.reg [⟨some 6,none,.mov (.c (.bool true))⟩]) .ret)))
set_option maxRecDepth 100000 in
theorem tr123 : trFn Tryz.prog Tryz.f123 = some (35, ir123, [.tmp 6]) := by kernel_rfl
theorem impl_isTable (p n' : Int) (t : Nat → Int) (b o : Nat) (K : Blk) (H : Hp) (n : Nat) (hb : H.get b = some K) (ho : o + 512 ≤ K.size) (hc : ∀ i, i < 512 → K.c (o + i) = .int .u8 (t i)) (ht : isBy 512 t) :
    FnS Tryz.prog 123 [i64 p, i64 n', ptr b o] H n (fun r H' _ => r = bl (tb (sz p n' ∧ isTab p n' t)) ∧ H' = H) := by
  refine FnS.of_body Tryz.func123 tr123 (by simp) (fun hf => ?_)
  dsimp only [argEnv]
  unfold ir123
  (repeat first|refine zG ?_|(refine LS.nilO ?_;intro nq hnq hltq;try refine zU ?_)|(refine MS.new ?_;intro bq hbq hbqf;try refine zU ?_)|(refine MS.nil ?_;intro nq hnq hltq;have hlq:=hltq _ _ (Hp.get_eq _ _ _);clear hltq;try refine zU ?_)|(refine LS.nilQ ?_;try with_reducible intro nq hnq;try refine zU ?_))
  refine CS.iter 8 (fun i => [(8, i64 i), (2, ptr b o), (0, i64 p), (1, i64 n')]) (fun _ => H) (fun i => (1 ≤ i → sz p n') ∧ ∀ j : Nat, j < i → isLin p n' n' (fun x => t (64 * j + x)) ∧ (n' ≤ j → ∀ x, x < 64 → t (64 * j + x) = 0)) (by (repeat first | exact trivial | refine And.intro rfl ?_)) (Drops.refl _ _) ⟨by omega, fun j hj => by omega⟩ ?_
  intro i n1 hi hn hJ
  (repeat first|refine zG ?_|(refine LS.nilO ?_;intro nq hnq hltq;try refine zU ?_)|(refine MS.new ?_;intro bq hbq hbqf;try refine zU ?_)|(refine MS.nil ?_;intro nq hnq hltq;have hlq:=hltq _ _ (Hp.get_eq _ _ _);clear hltq;try refine zU ?_)|(refine LS.nilQ ?_;try with_reducible intro nq hnq;try refine zU ?_))
  refine zI ?_ ?_<;>intro h1
  · (repeat first|refine zG ?_|(refine LS.nilO ?_;intro nq hnq hltq;try refine zU ?_)|(refine MS.new ?_;intro bq hbq hbqf;try refine zU ?_)|(refine MS.nil ?_;intro nq hnq hltq;have hlq:=hltq _ _ (Hp.get_eq _ _ _);clear hltq;try refine zU ?_)|(refine LS.nilQ ?_;try with_reducible intro nq hnq;try refine zU ?_))
    refine RS.call rfl ((impl_isLinear p n' n' (fun x => t (64 * i + x)) b (o + 64 * i) K _ _ hb (by omega) (fun x hx => by rw [Nat.add_assoc]; exact hc _ (by omega)) (fun x hx => ht _ (by omega))).mono ?_)
    rintro r H' n2 hn2 ⟨rfl, rfl⟩
    (repeat first|refine zG ?_|(refine LS.nilO ?_;intro nq hnq hltq;try refine zU ?_)|(refine MS.new ?_;intro bq hbq hbqf;try refine zU ?_)|(refine MS.nil ?_;intro nq hnq hltq;have hlq:=hltq _ _ (Hp.get_eq _ _ _);clear hltq;try refine zU ?_)|(refine LS.nilQ ?_;try with_reducible intro nq hnq;try refine zU ?_))
    refine RS.sp (t := 20) rfl (fun h2 => ?_) (fun h2 => ?_) <;> (try simp only [tb_eq, tb_eqF, decide_eq_true_eq, decide_eq_false_iff_not, beq_iff_eq, bne_iff_ne, ne_eq, Decidable.not_not, beq_eq_false_iff_ne, bne_eq_false_iff_eq, Bool.not_eq_true', Bool.not_eq_false', Bool.not_eq_eq_eq_not, Bool.not_true, Bool.not_false] at h2)
    · (repeat first|refine zG ?_|(refine LS.nilO ?_;intro nq hnq hltq;try refine zU ?_)|(refine MS.new ?_;intro bq hbq hbqf;try refine zU ?_)|(refine MS.nil ?_;intro nq hnq hltq;have hlq:=hltq _ _ (Hp.get_eq _ _ _);clear hltq;try refine zU ?_)|(refine LS.nilQ ?_;try with_reducible intro nq hnq;try refine zU ?_))
      exact ⟨_, H', rfl, by exact zD, by rw [tb_false (fun h => h2 ⟨h.1, (h.2 i (by omega)).1⟩)], rfl⟩
    · (repeat first|refine zG ?_|(refine LS.nilO ?_;intro nq hnq hltq;try refine zU ?_)|(refine MS.new ?_;intro bq hbq hbqf;try refine zU ?_)|(refine MS.nil ?_;intro nq hnq hltq;have hlq:=hltq _ _ (Hp.get_eq _ _ _);clear hltq;try refine zU ?_)|(refine LS.nilQ ?_;try with_reducible intro nq hnq;try refine zU ?_))
      refine RS.sp (t := 24) rfl (fun h3 => ?_) (fun h3 => ?_) <;> (try simp only [tb_eq, tb_eqF, decide_eq_true_eq, decide_eq_false_iff_not, beq_iff_eq, bne_iff_ne, ne_eq, Decidable.not_not, beq_eq_false_iff_ne, bne_eq_false_iff_eq, Bool.not_eq_true', Bool.not_eq_false', Bool.not_eq_eq_eq_not, Bool.not_true, Bool.not_false] at h3)
      · (repeat first|refine zG ?_|(refine LS.nilO ?_;intro nq hnq hltq;try refine zU ?_)|(refine MS.new ?_;intro bq hbq hbqf;try refine zU ?_)|(refine MS.nil ?_;intro nq hnq hltq;have hlq:=hltq _ _ (Hp.get_eq _ _ _);clear hltq;try refine zU ?_)|(refine LS.nilQ ?_;try with_reducible intro nq hnq;try refine zU ?_))
        refine zI ?_ ?_<;>intro h4
        · (repeat first|refine zG ?_|(refine LS.nilO ?_;intro nq hnq hltq;try refine zU ?_)|(refine MS.new ?_;intro bq hbq hbqf;try refine zU ?_)|(refine MS.nil ?_;intro nq hnq hltq;have hlq:=hltq _ _ (Hp.get_eq _ _ _);clear hltq;try refine zU ?_)|(refine LS.nilQ ?_;try with_reducible intro nq hnq;try refine zU ?_))
          exact ⟨_, H', rfl, by exact zD, by rw [tb_false (fun h => h4 (fun x hx => (h.2 i (by omega)).2 (by omega) x hx))], rfl⟩
        · (repeat first|refine zG ?_|(refine LS.nilO ?_;intro nq hnq hltq;try refine zU ?_)|(refine MS.new ?_;intro bq hbq hbqf;try refine zU ?_)|(refine MS.nil ?_;intro nq hnq hltq;have hlq:=hltq _ _ (Hp.get_eq _ _ _);clear hltq;try refine zU ?_)|(refine LS.nilQ ?_;try with_reducible intro nq hnq;try refine zU ?_))
          refine ⟨by omega, by (repeat first | exact trivial | refine And.intro rfl ?_), by exact zD, fun _ => h2.1, fun j hj => ?_⟩
          by_cases e : j < i
          · exact hJ.2 j e
          · have : j = i := by omega
            subst this; exact ⟨h2.2, fun _ => h4⟩
      · (repeat first|refine zG ?_|(refine LS.nilO ?_;intro nq hnq hltq;try refine zU ?_)|(refine MS.new ?_;intro bq hbq hbqf;try refine zU ?_)|(refine MS.nil ?_;intro nq hnq hltq;have hlq:=hltq _ _ (Hp.get_eq _ _ _);clear hltq;try refine zU ?_)|(refine LS.nilQ ?_;try with_reducible intro nq hnq;try refine zU ?_))
        refine ⟨by omega, by (repeat first | exact trivial | refine And.intro rfl ?_), by exact zD, fun _ => h2.1, fun j hj => ?_⟩
        by_cases e : j < i
        · exact hJ.2 j e
        · have : j = i := by omega
          subst this; exact ⟨h2.2, fun h => by omega⟩
  · (repeat first|refine zG ?_|(refine LS.nilO ?_;intro nq hnq hltq;try refine zU ?_)|(refine MS.new ?_;intro bq hbq hbqf;try refine zU ?_)|(refine MS.nil ?_;intro nq hnq hltq;have hlq:=hltq _ _ (Hp.get_eq _ _ _);clear hltq;try refine zU ?_)|(refine LS.nilQ ?_;try with_reducible intro nq hnq;try refine zU ?_))
    exact ⟨_, _, rfl, by exact zD, by rw [tb_true (show sz p n' ∧ isTab p n' t from ⟨hJ.1 (by omega), fun j hj => hJ.2 j (by omega)⟩)], rfl⟩
/-- spec.l02Shape -/
def ir134 : Cd := (.seq (.reg [⟨some 1,none,.box 46 (.t 0)⟩,⟨some 2,none,.mov (.c (.bool false))⟩]) (.seq (.reg [⟨some 3,none,.fa 0 (.t 1)⟩,⟨some 4,none,.ld none (.t 3)⟩,⟨some 5,none,.fa 1 (.t 1)⟩,⟨some 6,none,.ld none (.t 5)⟩,⟨some 7,none,.call 116 [(.t 4),(.t 6)]⟩,⟨some 8,none,.mov (.t 7)⟩,⟨some 9,(some (8,true)),.fa 0 (.t 1)⟩,⟨some 10,(some (8,true)),.ld none (.t 9)⟩,⟨some 11,(some (8,true)),.fa 1 (.t 1)⟩,⟨some 12,(some (8,true)),.ld none (.t 11)⟩,⟨some 13,(some (8,true)),.fa 2 (.t 1)⟩,⟨some 14,(some (8,true)),.ld (some 8) (.t 13)⟩,⟨some 15,(some (8,true)),.call 69 [(.t 10),(.t 12),(.t 14)]⟩,⟨some 16,none,.pick (.t 8) (.t 15) (.c (.bool false))⟩,⟨some 17,none,.mov (.t 16)⟩,⟨some 18,(some (17,true)),.fa 0 (.t 1)⟩,⟨some 19,(some (17,true)),.ld none (.t 18)⟩,⟨some 20,(some (17,true)),.fa 1 (.t 1)⟩,⟨some 21,(some (17,true)),.ld none (.t 20)⟩,⟨some 22,(some (17,true)),.fa 10 (.t 1)⟩,⟨some 23,(some (17,true)),.ld (some 512) (.t 22)⟩,⟨some 24,(some (17,true)),.call 91 [(.t 19),(.t 21),(.t 23)]⟩,⟨some 25,none,.pick (.t 17) (.t 24) (.c (.bool false))⟩,⟨some 2,none,.mov (.t 25)⟩]) .ret))
set_option maxRecDepth 100000 in
theorem tr134 : trFn Tryz.prog Tryz.f134 = some (26, ir134, [.tmp 2]) := by kernel_rfl
theorem spec_l02Shape (p n' : Int) (u m : Nat → Int) (K : Nat → SV) (H : Hp) (n : Nat) (h0 : K 0 = .int .i64 p) (h1 : K 1 = .int .i64 n')
    (hU : ∀ q, q < 8 → K (2 + q) = .int .u8 (u q)) (hK : ∀ q, q < 512 → K (10 + q) = .int .u8 (m q)) (hu : isBy 8 u) (hm : isBy 512 m) :
    FnS Tryz.prog 134 [.arr 522 K] H n (fun v H' _ => v = bl (tb (shp p n' u m)) ∧ H' = H) := by
  refine FnS.of_body Tryz.func134 tr134 (by simp) (fun hf => ?_)
  dsimp only [argEnv]
  unfold ir134
  (repeat first|refine zG ?_|(refine LS.nilO ?_;intro nq hnq hltq;try refine zU ?_)|(refine MS.new ?_;intro bq hbq hbqf;try refine zU ?_)|(refine MS.nil ?_;intro nq hnq hltq;have hlq:=hltq _ _ (Hp.get_eq _ _ _);clear hltq;try refine zU ?_)|(refine LS.nilQ ?_;try with_reducible intro nq hnq;try refine zU ?_))
  refine RS.call rfl ((spec_l01Sizes _ _ _ _).mono ?_)
  rintro r H n2 hn2 ⟨rfl, rfl⟩
  (repeat first|refine zG ?_|(refine LS.nilO ?_;intro nq hnq hltq;try refine zU ?_)|(refine MS.new ?_;intro bq hbq hbqf;try refine zU ?_)|(refine MS.nil ?_;intro nq hnq hltq;have hlq:=hltq _ _ (Hp.get_eq _ _ _);clear hltq;try refine zU ?_)|(refine LS.nilQ ?_;try with_reducible intro nq hnq;try refine zU ?_))
  refine RS.sp (t := 8) rfl (fun h2 => ?_) (fun h2 => ?_) <;> (try simp only [tb_eq, tb_eqF, decide_eq_true_eq, decide_eq_false_iff_not, beq_iff_eq, bne_iff_ne, ne_eq, Decidable.not_not, beq_eq_false_iff_ne, bne_eq_false_iff_eq, Bool.not_eq_true', Bool.not_eq_false', Bool.not_eq_eq_eq_not, Bool.not_true, Bool.not_false] at h2)
  · (repeat first|refine zG ?_|(refine LS.nilO ?_;intro nq hnq hltq;try refine zU ?_)|(refine MS.new ?_;intro bq hbq hbqf;try refine zU ?_)|(refine MS.nil ?_;intro nq hnq hltq;have hlq:=hltq _ _ (Hp.get_eq _ _ _);clear hltq;try refine zU ?_)|(refine LS.nilQ ?_;try with_reducible intro nq hnq;try refine zU ?_))
    refine RS.call rfl ((spec_l01Vector p n' u _ _ hu).mono ?_)
    rintro r H n3 hn3 ⟨rfl, rfl⟩
    (repeat first|refine zG ?_|(refine LS.nilO ?_;intro nq hnq hltq;try refine zU ?_)|(refine MS.new ?_;intro bq hbq hbqf;try refine zU ?_)|(refine MS.nil ?_;intro nq hnq hltq;have hlq:=hltq _ _ (Hp.get_eq _ _ _);clear hltq;try refine zU ?_)|(refine LS.nilQ ?_;try with_reducible intro nq hnq;try refine zU ?_))
    refine RS.sp (t := 17) rfl (fun h3 => ?_) (fun h3 => ?_) <;> (try simp only [tb_eq, tb_eqF, decide_eq_true_eq, decide_eq_false_iff_not, beq_iff_eq, bne_iff_ne, ne_eq, Decidable.not_not, beq_eq_false_iff_ne, bne_eq_false_iff_eq, Bool.not_eq_true', Bool.not_eq_false', Bool.not_eq_eq_eq_not, Bool.not_true, Bool.not_false] at h3)
    · (repeat first|refine zG ?_|(refine LS.nilO ?_;intro nq hnq hltq;try refine zU ?_)|(refine MS.new ?_;intro bq hbq hbqf;try refine zU ?_)|(refine MS.nil ?_;intro nq hnq hltq;have hlq:=hltq _ _ (Hp.get_eq _ _ _);clear hltq;try refine zU ?_)|(refine LS.nilQ ?_;try with_reducible intro nq hnq;try refine zU ?_))
      refine RS.call rfl ((spec_l01Table p n' m _ _ hm).mono ?_)
      rintro r H n4 hn4 ⟨rfl, rfl⟩
      (repeat first|refine zG ?_|(refine LS.nilO ?_;intro nq hnq hltq;try refine zU ?_)|(refine MS.new ?_;intro bq hbq hbqf;try refine zU ?_)|(refine MS.nil ?_;intro nq hnq hltq;have hlq:=hltq _ _ (Hp.get_eq _ _ _);clear hltq;try refine zU ?_)|(refine LS.nilQ ?_;try with_reducible intro nq hnq;try refine zU ?_))
      exact ⟨_, H, rfl, by exact zD, congrArg bl (tb_iff ⟨fun h => ⟨h2, h3, h⟩, fun h => h.2.2⟩), rfl⟩
    · (repeat first|refine zG ?_|(refine LS.nilO ?_;intro nq hnq hltq;try refine zU ?_)|(refine MS.new ?_;intro bq hbq hbqf;try refine zU ?_)|(refine MS.nil ?_;intro nq hnq hltq;have hlq:=hltq _ _ (Hp.get_eq _ _ _);clear hltq;try refine zU ?_)|(refine LS.nilQ ?_;try with_reducible intro nq hnq;try refine zU ?_))
      exact ⟨_, H, rfl, by exact zD, by rw [tb_false (fun h => h3 h.2.1)], rfl⟩
  · (repeat first|refine zG ?_|(refine LS.nilO ?_;intro nq hnq hltq;try refine zU ?_)|(refine MS.new ?_;intro bq hbq hbqf;try refine zU ?_)|(refine MS.nil ?_;intro nq hnq hltq;have hlq:=hltq _ _ (Hp.get_eq _ _ _);clear hltq;try refine zU ?_)|(refine LS.nilQ ?_;try with_reducible intro nq hnq;try refine zU ?_))
    exact ⟨_, H, rfl, by exact zD, by rw [tb_false (fun h => h2 h.1)], rfl⟩
/-- laws.toHopf -/
def ir8 : Cd := (.seq (.reg [⟨some 1,none,.box 26 (.t 0)⟩,⟨some 2,none,.new 35 [(2,(.int .i64 0)),(1104,(.int .u8 0))]⟩]) (.seq (.reg [⟨some 3,none,.new 35 [(2,(.int .i64 0)),(1104,(.int .u8 0))]⟩]) (.seq (.reg [⟨some 4,none,.fa 0 (.t 1)⟩,⟨some 5,none,.ld none (.t 4)⟩,⟨some 6,none,.fa 0 (.t 3)⟩,⟨none,none,.st 1 (.t 6) (.t 5)⟩]) (.seq (.reg [⟨some 7,none,.fa 1 (.t 1)⟩,⟨some 8,none,.ld none (.t 7)⟩,⟨some 9,none,.fa 1 (.t 3)⟩,⟨none,none,.st 1 (.t 9) (.t 8)⟩]) (.seq (.reg [⟨some 10,none,.fa 2 (.t 1)⟩,⟨some 11,none,.ld (some 8) (.t 10)⟩,⟨some 12,none,.call 22 [(.t 11)]⟩,⟨some 13,none,.fa 2 (.t 3)⟩,⟨none,none,.st 8 (.t 13) (.t 12)⟩]) (.seq (.reg [⟨some 14,none,.fa 10 (.t 1)⟩,⟨some 15,none,.ld (some 512) (.t 14)⟩,⟨some 16,none,.call 23 [(.t 15)]⟩,⟨some 17,none,.fa 10 (.t 3)⟩,⟨none,none,.st 512 (.t 17) (.t 16)⟩]) (.seq (.reg [⟨some 18,none,.fa 522 (.t 1)⟩,⟨some 19,none,.ld (some 8) (.t 18)⟩,⟨some 20,none,.call 22 [(.t 19)]⟩,⟨some 21,none,.fa 522 (.t 3)⟩,⟨none,none,.st 8 (.t 21) (.t 20)⟩]) (.seq (.reg [⟨some 22,none,.fa 530 (.t 1)⟩,⟨some 23,none,.ld (some 512) (.t 22)⟩,⟨some 24,none,.call 23 [(.t 23)]⟩,⟨some 25,none,.fa 530 (.t 3)⟩,⟨none,none,.st 512 (.t 25) (.t 24)⟩]) (.seq (.reg [⟨some 26,none,.fa 1042 (.t 1)⟩,⟨some 27,none,.ld (some 64) (.t 26)⟩,⟨some 28,none,.call 9 [(.t 27)]⟩,⟨some 29,none,.fa 1042 (.t 3)⟩,⟨none,none,.st 64 (.t 29) (.t 28)⟩]) (.seq (.reg [⟨some 30,none,.ld (some 1106) (.t 3)⟩,⟨none,none,.st 1106 (.t 2) (.t 30)⟩]) .ret))))))))))
set_option maxRecDepth 100000 in
theorem tr8 : trFn Tryz.prog Tryz.f8 = some (31, ir8, [.cell (some 1106) 2]) := by kernel_rfl
theorem laws_toHopf (h : HT) (K : Nat → SV) (H : Hp) (n : Nat) (hK : h.At K) :
    FnS Tryz.prog 8 [.arr 1106 K] H n (fun r H' _ => r = .arr 1106 K ∧ H' = H) := by
  obtain ⟨k0, k1, k2, k3, k4, k5, k6⟩ := hK
  refine FnS.of_body Tryz.func8 tr8 (by simp) (fun hf => ?_)
  dsimp only [argEnv]
  unfold ir8
  (repeat first|refine zG ?_|(refine LS.nilO ?_;intro nq hnq hltq;try refine zU ?_)|(refine MS.new ?_;intro bq hbq hbqf;try refine zU ?_)|(refine MS.nil ?_;intro nq hnq hltq;have hlq:=hltq _ _ (Hp.get_eq _ _ _);clear hltq;try refine zU ?_)|(refine LS.nilQ ?_;try with_reducible intro nq hnq;try refine zU ?_))
  refine RS.call rfl ((laws_toVector h.u _ _).mono ?_)
  rintro r H' n2 hn2 ⟨rfl, rfl⟩
  (repeat first|refine zG ?_|(refine LS.nilO ?_;intro nq hnq hltq;try refine zU ?_)|(refine MS.new ?_;intro bq hbq hbqf;try refine zU ?_)|(refine MS.nil ?_;intro nq hnq hltq;have hlq:=hltq _ _ (Hp.get_eq _ _ _);clear hltq;try refine zU ?_)|(refine LS.nilQ ?_;try with_reducible intro nq hnq;try refine zU ?_))
  refine RS.call rfl ((laws_toTable h.m _ _).mono ?_)
  rintro r H' n3 hn3 ⟨rfl, rfl⟩
  (repeat first|refine zG ?_|(refine LS.nilO ?_;intro nq hnq hltq;try refine zU ?_)|(refine MS.new ?_;intro bq hbq hbqf;try refine zU ?_)|(refine MS.nil ?_;intro nq hnq hltq;have hlq:=hltq _ _ (Hp.get_eq _ _ _);clear hltq;try refine zU ?_)|(refine LS.nilQ ?_;try with_reducible intro nq hnq;try refine zU ?_))
  refine RS.call rfl ((laws_toVector h.e _ _).mono ?_)
  rintro r H' n4 hn4 ⟨rfl, rfl⟩
  (repeat first|refine zG ?_|(refine LS.nilO ?_;intro nq hnq hltq;try refine zU ?_)|(refine MS.new ?_;intro bq hbq hbqf;try refine zU ?_)|(refine MS.nil ?_;intro nq hnq hltq;have hlq:=hltq _ _ (Hp.get_eq _ _ _);clear hltq;try refine zU ?_)|(refine LS.nilQ ?_;try with_reducible intro nq hnq;try refine zU ?_))
  refine RS.call rfl ((laws_toTable h.c _ _).mono ?_)
  rintro r H' n5 hn5 ⟨rfl, rfl⟩
  (repeat first|refine zG ?_|(refine LS.nilO ?_;intro nq hnq hltq;try refine zU ?_)|(refine MS.new ?_;intro bq hbq hbqf;try refine zU ?_)|(refine MS.nil ?_;intro nq hnq hltq;have hlq:=hltq _ _ (Hp.get_eq _ _ _);clear hltq;try refine zU ?_)|(refine LS.nilQ ?_;try with_reducible intro nq hnq;try refine zU ?_))
  refine RS.call rfl ((laws_toLinear h.s _ _).mono ?_)
  rintro r H' n6 hn6 ⟨rfl, rfl⟩
  (repeat first|refine zG ?_|(refine LS.nilO ?_;intro nq hnq hltq;try refine zU ?_)|(refine MS.new ?_;intro bq hbq hbqf;try refine zU ?_)|(refine MS.nil ?_;intro nq hnq hltq;have hlq:=hltq _ _ (Hp.get_eq _ _ _);clear hltq;try refine zU ?_)|(refine LS.nilQ ?_;try with_reducible intro nq hnq;try refine zU ?_))
  refine ⟨.arr 1106 K, H, conc_arr (fun q hq => ?_), by exact zD, rfl, rfl⟩
  simp only [Nat.zero_add, splice, put1]
  by_cases e0 : q < 2
  · rw [if_neg (by omega), if_neg (by omega), if_neg (by omega), if_neg (by omega), if_neg (by omega)]
    by_cases e1 : q = 1
    · subst e1; rw [if_pos rfl]; exact k1.symm
    · have : q = 0 := by omega
      subst this; rw [if_neg (by omega), if_pos rfl]; exact k0.symm
  by_cases e1 : q < 10
  · rw [if_neg (by omega), if_neg (by omega), if_neg (by omega), if_neg (by omega), if_pos (by omega)]
    have := k2 (q - 2) (by omega)
    rw [show 2 + (q - 2) = q by omega] at this
    rw [this]; rfl
  by_cases e2 : q < 522
  · rw [if_neg (by omega), if_neg (by omega), if_neg (by omega), if_pos (by omega)]
    have := k3 (q - 10) (by omega)
    rw [show 10 + (q - 10) = q by omega] at this
    rw [this]; rfl
  by_cases e3 : q < 530
  · rw [if_neg (by omega), if_neg (by omega), if_pos (by omega)]
    have := k4 (q - 522) (by omega)
    rw [show 522 + (q - 522) = q by omega] at this
    rw [this]; rfl
  by_cases e4 : q < 1042
  · rw [if_neg (by omega), if_pos (by omega)]
    have := k5 (q - 530) (by omega)
    rw [show 530 + (q - 530) = q by omega] at this
    rw [this]; rfl
  · rw [if_pos (by omega)]
    have := k6 (q - 1042) (by omega)
    rw [show 1042 + (q - 1042) = q by omega] at this
    rw [this]; rfl
/-- (*impl.Hopf).product1312 -/
def ir80 : Cd := (.seq (.reg [⟨some 2,none,.box 55 (.t 0)⟩,⟨some 3,none,.box 56 (.t 1)⟩,⟨some 4,none,.new 33 [(512,(.int .u8 0))]⟩]) (.seq (.reg [⟨some 7,none,.ld none (.t 2)⟩,⟨some 8,none,.call 49 [(.t 7)]⟩,⟨some 9,none,.build 512 [(512,(.int .u8 0))] []⟩,⟨some 5,none,.new 85 [(2,(.int .i64 0))]⟩,⟨some 6,none,.new 33 [(512,(.int .u8 0))]⟩,⟨none,none,.st 2 (.t 5) (.t 8)⟩,⟨none,none,.st 512 (.t 6) (.t 9)⟩]) (.seq (.reg [⟨some 10,none,.ld none (.t 3)⟩,⟨some 11,none,.mkf 97 [] [(.t 3),(.t 2),(.t 5),(.t 6)]⟩,⟨some 12,none,.call 51 [(.t 10),(.t 11)]⟩]) (.seq (.reg [⟨some 13,none,.ld (some 512) (.t 6)⟩,⟨none,none,.st 512 (.t 4) (.t 13)⟩]) .ret))))
set_option maxRecDepth 100000 in
theorem tr80 : trFn Tryz.prog Tryz.f80 = some (14, ir80, [.cell (some 512) 4]) := by kernel_rfl
theorem Hopf_product1312 (h : HT) (a : Nat) (s : Nat → Int) (b bs os : Nat) (K Ks : Blk) (H : Hp) (n : Nat) (hS : HS h a) (hb : H.get b = some K) (hsz : K.size = 1106) (hK : h.At K.c) (hB : h.By)
    (hbs : H.get bs = some Ks) (ho : os + 64 ≤ Ks.size) (hc : ∀ i, i < 64 → Ks.c (os + i) = .int .u8 (s i)) (hs : isBy 64 s) :
    FnS Tryz.prog 80 [ptr b 0, ptr bs os] H n (fun r H' _ => r = .arr 512 (bys (r12 h.p h.m s)) ∧ H' = H) := by
  have hp := hS.hp
  have ha := hS.ha
  have hk1 := hK.n
  rw [hS.hn] at hk1
  refine FnS.of_body Tryz.func80 tr80 (by simp) (fun hf => ?_)
  dsimp only [argEnv]
  unfold ir80
  have hbn := getlt hf hb
  have hbn2 := getlt hf hbs
  (repeat first|refine zG ?_|(refine LS.nilO ?_;intro nq hnq hltq;try refine zU ?_)|(refine MS.new ?_;intro bq hbq hbqf;try refine zU ?_)|(refine MS.nil ?_;intro nq hnq hltq;have hlq:=hltq _ _ (Hp.get_eq _ _ _);clear hltq;try refine zU ?_)|(refine LS.nilQ ?_;try with_reducible intro nq hnq;try refine zU ?_))
  refine RS.call rfl ((Hopf_field h.p a b K _ _ (by exact zH) hsz hK.p hk1 (by omega)).mono ?_)
  rintro r H n2 hn2 ⟨rfl, rfl⟩
  (repeat first|refine zG ?_|(refine LS.nilO ?_;intro nq hnq hltq;try refine zU ?_)|(refine MS.new ?_;intro bq hbq hbqf;try refine zU ?_)|(refine MS.nil ?_;intro nq hnq hltq;have hlq:=hltq _ _ (Hp.get_eq _ _ _);clear hltq;try refine zU ?_)|(refine LS.nilQ ?_;try with_reducible intro nq hnq;try refine zU ?_))
  refine RS.call rfl ((impl_pairs s bs os _ _ (fun t => (n2 + 1, ⟨512, bys (q12 h.p h.m s t 0), 33⟩) :: (n2, ⟨2, fldC h.p a, 85⟩) :: (n + 2, ⟨512, fun _ => .int .u8 0, 33⟩) :: (n + 1, ⟨1, fun _ => .ptr bs os, 56⟩) :: (n, ⟨1, fun _ => .ptr b 0, 55⟩) :: H) _ _ (by (try dsimp only); rw [q12_zero]; rfl)
    (fun s hs => ⟨Ks, by exact zH, ho, hc⟩) hs (fun t ht hz => by (try dsimp only); rw [q12_skip hz]) (fun t j k n' ht ht' hk hz hn' => ?_)).mono ?_)
  · refine (Hopf_product1312_1 h a s t j k ht' (by omega) hk b bs os (n + 1) n n2 (n2 + 1) K Ks _ _ _ n' hS (by exact zH) hsz hK hB hs (by exact zH) ho hc (by exact zH) rfl rfl (by exact zH) rfl rfl (by exact zH) (by exact zH) (by omega) (by omega) (by omega) (by omega) (by omega)).mono ?_
    rintro r H' n3 hn3 rfl
    simp (disch := omega) only [Hp.set_eq, Hp.set_ne, Hp.set_set]
  rintro r H' n3 hn3 rfl
  (repeat first|refine zG ?_|(refine LS.nilO ?_;intro nq hnq hltq;try refine zU ?_)|(refine MS.new ?_;intro bq hbq hbqf;try refine zU ?_)|(refine MS.nil ?_;intro nq hnq hltq;have hlq:=hltq _ _ (Hp.get_eq _ _ _);clear hltq;try refine zU ?_)|(refine LS.nilQ ?_;try with_reducible intro nq hnq;try refine zU ?_))
  exact ⟨.arr 512 (bys (r12 h.p h.m s)), _, conc_arr (fun q hq => by simp only [Nat.zero_add, bys]; rw [q12_end _ _ _ hq]), by exact zD, rfl, rfl⟩
/-- (*impl.Hopf).antipode -/
def ir33 : Cd := (.seq (.reg [⟨some 3,none,.box 27 (.t 1)⟩,⟨some 4,none,.new 27 [(8,(.int .u8 0))]⟩]) (.seq (.drwo true [6,7] [0,2,3,4,5,1,6,7] [⟨some 5,none,.mov (.t 0)⟩,⟨some 6,none,.call 49 [(.t 5)]⟩,⟨some 7,none,.mov (.t 0)⟩,⟨some 8,none,.ck (.t 7)⟩,⟨some 9,none,.fa 1042 (.t 8)⟩,⟨some 10,none,.ld (some 8) (.t 3)⟩,⟨some 11,none,.call 53 [(.t 6),(.t 9),(.t 10)]⟩,⟨none,none,.st 8 (.t 4) (.t 11)⟩]) .ret))
set_option maxRecDepth 100000 in
theorem tr33 : trFn Tryz.prog Tryz.f33 = some (12, ir33, [.cell (some 8) 4]) := by kernel_rfl
theorem Hopf_antipode (h : HT) (a : Nat) (v : Nat → Int) (b : Nat) (K : Blk) (H : Hp) (n : Nat) (hS : HS h a) (hb : H.get b = some K) (hsz : K.size = 1106) (hK : h.At K.c) (hB : h.By) (hv : isBy 8 v) :
    FnS Tryz.prog 33 [ptr b 0, .arr 8 (bys v)] H n (fun r H' _ => r = .arr 8 (bys (app h.p h.s v)) ∧ H' = H) := by
  have hp := hS.hp
  have ha := hS.ha
  have hk1 := hK.n
  rw [hS.hn] at hk1
  refine FnS.of_body Tryz.func33 tr33 (by simp) (fun hf => ?_)
  dsimp only [argEnv]
  unfold ir33
  have hbn := getlt hf hb
  (repeat first|refine zG ?_|(refine LS.nilO ?_;intro nq hnq hltq;try refine zU ?_)|(refine MS.new ?_;intro bq hbq hbqf;try refine zU ?_)|(refine MS.nil ?_;intro nq hnq hltq;have hlq:=hltq _ _ (Hp.get_eq _ _ _);clear hltq;try refine zU ?_)|(refine LS.nilQ ?_;try with_reducible intro nq hnq;try refine zU ?_))
  refine CS.tailLo _ (List.Mem.head _) ?_; dsimp only [List.take, List.drop]
  (repeat first|refine zG ?_|(refine LS.nilO ?_;intro nq hnq hltq;try refine zU ?_)|(refine MS.new ?_;intro bq hbq hbqf;try refine zU ?_)|(refine MS.nil ?_;intro nq hnq hltq;have hlq:=hltq _ _ (Hp.get_eq _ _ _);clear hltq;try refine zU ?_)|(refine LS.nilQ ?_;try with_reducible intro nq hnq;try refine zU ?_))
  refine LS.callQ (fld h.p a) rfl (fun n' hn' => Hopf_field h.p a b K _ _ (by exact zH) hsz hK.p hk1 (by omega)) ?_
  (repeat first|refine zG ?_|(refine LS.nilO ?_;intro nq hnq hltq;try refine zU ?_)|(refine MS.new ?_;intro bq hbq hbqf;try refine zU ?_)|(refine MS.nil ?_;intro nq hnq hltq;have hlq:=hltq _ _ (Hp.get_eq _ _ _);clear hltq;try refine zU ?_)|(refine LS.nilQ ?_;try with_reducible intro nq hnq;try refine zU ?_))
  refine RS.call rfl ((field_apply h.p a h.s v b 1042 K _ _ hp (by exact zH) (by omega) hK.s hB.s hv).mono ?_)
  rintro r H' n3 hn3 ⟨rfl, rfl⟩
  (repeat first|refine zG ?_|(refine LS.nilO ?_;intro nq hnq hltq;try refine zU ?_)|(refine MS.new ?_;intro bq hbq hbqf;try refine zU ?_)|(refine MS.nil ?_;intro nq hnq hltq;have hlq:=hltq _ _ (Hp.get_eq _ _ _);clear hltq;try refine zU ?_)|(refine LS.nilQ ?_;try with_reducible intro nq hnq;try refine zU ?_))
  exact ⟨.arr 8 (bys (app h.p h.s v)), H, conc_arr (fun q hq => by first | rfl | (simp only [Nat.zero_add]; done) | (simp only [Nat.zero_add]; rfl)), by exact zD, rfl, rfl⟩
end Go.Proofs.YtbknndbfbebkdabGreatR
