/- Contracts of the program's functions. -/
import Derived.Test.YtdellpnmbgjofaaR
import Derived.Test.YtdellpnmbgjofaaB2a
import Derived.Test.YtdellpnmbgjofaaB2b
import Derived.Test.YtdellpnmbgjofaaB2c
namespace Go.Proofs.Ytdellpnmbgjofaa
open Go.V
set_option linter.unusedSimpArgs false
set_option linter.unusedVariables false
set_option maxHeartbeats 4000000
/-- impl.isTable -/
def ir53 : Cd := (.seq (.reg [⟨some 6,none,.mov (.c (.bool false))⟩]) (.seq (.seq (.reg [⟨some 8,none,.mov (.c (.int .i64 0))⟩]) (.block 0 (.loop (.seq (.reg [⟨some 9,none,.bin .lss (.t 8) (.c (.int .i64 8))⟩]) (.seq (.cond (.t 9) .skip (.exit 0)) (.seq (.block 1 (.seq (.reg [⟨some 10,none,.mov (.t 8)⟩,⟨some 7,none,.mov (.t 10)⟩]) (.seq (.reg [⟨some 11,none,.mov (.t 0)⟩,⟨some 12,none,.mov (.t 1)⟩,⟨some 13,none,.mov (.t 1)⟩,⟨some 14,none,.mov (.t 2)⟩,⟨some 15,none,.mov (.t 7)⟩,⟨some 16,none,.ck (.t 14)⟩,⟨some 17,none,.ia 8 64 (.t 16) (.t 15)⟩,⟨some 18,none,.call 60 [(.t 11),(.t 12),(.t 13),(.t 17)]⟩,⟨some 19,none,.un .not (.t 18)⟩,⟨some 20,none,.mov (.t 19)⟩,⟨some 21,(some (20,false)),.mov (.t 7)⟩,⟨some 22,(some (20,false)),.mov (.t 1)⟩,⟨some 23,(some (20,false)),.bin .geq (.t 21) (.t 22)⟩,⟨some 24,(some (20,false)),.mov (.t 23)⟩,⟨some 25,(some (24,true)),.mov (.t 2)⟩,⟨some 26,(some (24,true)),.mov (.t 7)⟩,⟨some 27,(some (24,true)),.ck (.t 25)⟩,⟨some 28,(some (24,true)),.ia 8 64 (.t 27) (.t 26)⟩,⟨some 29,(some (24,true)),.ld (some 64) (.t 28)⟩,⟨some 30,(some (24,true)),.build 64 [(64,(.int .u8 0))] []⟩,⟨some 31,(some (24,true)),.eqa true 64 (.t 29) (.t 30)⟩,⟨some 32,(some (20,false)),.pick (.t 24) (.t 31) (.c (.bool false))⟩,⟨some 33,none,.pick (.t 20) (.c (.bool true)) (.t 32)⟩]) (.cond (.t 33) (.seq (.reg [⟨some 6,none,.mov (.c (.bool false))⟩]) .ret) .skip)))) (.reg [⟨some 34,none,.bin .add (.t 8) (.c (.int .i64 1))⟩,⟨some 8,none,.mov (.t 34)⟩]))))))) (.seq (.reg [⟨some 6,none,.mov (.c (.bool true))⟩]) .ret)))
set_option maxRecDepth 100000 in
theorem tr53 : trFn Try.prog Try.f53 = some (35, ir53, [.tmp 6]) := by kernel_rfl
theorem impl_isTable (p n' : Int) (t : Nat → Int) (b o : Nat) (K : Blk) (H : Hp) (n : Nat) (hb : H.get b = some K) (ho : o + 512 ≤ K.size) (hc : ∀ i, i < 512 → K.c (o + i) = .int .u8 (t i)) (ht : isBy 512 t) :
    FnS Try.prog 53 [i64 p, i64 n', ptr b o] H n (fun r H' _ => r = bl (tb (sz p n' ∧ isTab p n' t)) ∧ H' = H) := by
  refine FnS.of_body Try.func53 tr53 (by simp) (fun hf => ?_)
  dsimp only [argEnv]
  unfold ir53
  (repeat first|refine zG ?_|(refine LS.nilO ?_;intro nq hnq hltq;try refine zU ?_)|(refine MS.new ?_;intro bq hbq hbqf;try refine zU ?_)|(refine MS.nil ?_;intro nq hnq hltq;have hlq:=hltq _ _ (Hp.get_eq _ _ _);clear hltq;try refine zU ?_)|(refine LS.nilQ ?_;try with_reducible intro nq hnq;try refine zU ?_))
  refine CS.iter 8 (fun i => [(8, i64 i), (2, ptr b o), (0, i64 p), (1, i64 n')]) (fun _ => H) (fun i => (1 ≤ i → sz p n') ∧ ∀ j : Nat, j < i → isLin p n' n' (fun x => t (64 * j + x)) ∧ (n' ≤ j → ∀ x, x < 64 → t (64 * j + x) = 0)) (by (repeat first | exact trivial | refine And.intro rfl ?_)) (Drops.refl _ _) ⟨by omega, fun j hj => by omega⟩ ?_
  intro i n1 hi hn hJ
  (repeat first|refine zG ?_|(refine LS.nilO ?_;intro nq hnq hltq;try refine zU ?_)|(refine MS.new ?_;intro bq hbq hbqf;try refine zU ?_)|(refine MS.nil ?_;intro nq hnq hltq;have hlq:=hltq _ _ (Hp.get_eq _ _ _);clear hltq;try refine zU ?_)|(refine LS.nilQ ?_;try with_reducible intro nq hnq;try refine zU ?_))
  refine zI ?_ ?_<;>intro h1
  · (repeat first|refine zG ?_|(refine LS.nilO ?_;intro nq hnq hltq;try refine zU ?_)|(refine MS.new ?_;intro bq hbq hbqf;try refine zU ?_)|(refine MS.nil ?_;intro nq hnq hltq;have hlq:=hltq _ _ (Hp.get_eq _ _ _);clear hltq;try refine zU ?_)|(refine LS.nilQ ?_;try with_reducible intro nq hnq;try refine zU ?_))
    refine RS.call rfl ((impl_isLinear p n' n' (fun x => t (64 * i + x)) b (o + 64 * i) K _ _ hb (by omega) (fun x hx => by rw [Nat.add_assoc]; exact hc _ (by omega)) (fun x hx => ht _ (by omega))).mono ?_)
    rintro r H' n2 hn2 ⟨rfl, rfl⟩
    (repeat first|refine zG ?_|(refine LS.nilO ?_;intro nq hnq hltq;try refine zU ?_)|(refine MS.new ?_;intro bq hbq hbqf;try refine zU ?_)|(refine MS.nil ?_;intro nq hnq hltq;have hlq:=hltq _ _ (Hp.get_eq _ _ _);clear hltq;try refine zU ?_)|(refine LS.nilQ ?_;try with_reducible intro nq hnq;try refine zU ?_))
    refine RS.sp (t := 20) rfl (fun h2 => ?_) (fun h2 => ?_) <;> (try simp only [tb_eq, tb_eqF, decide_eq_true_eq, decide_eq_false_iff_not, beq_iff_eq, bne_iff_ne, ne_eq, Decidable.not_not, beq_eq_false_iff_ne, bne_eq_false_iff_eq, Bool.not_eq_true', Bool.not_eq_false', Bool.not_eq_eq_eq_not, Bool.not_true, Bool.not_false] at h2)
    · (repeat first|refine zG ?_|(refine LS.nilO ?_;intro nq hnq hltq;try refine zU ?_)|(refine MS.new ?_;intro bq hbq hbqf;try refine zU ?_)|(refine MS.nil ?_;intro nq hnq hltq;have hlq:=hltq _ _ (Hp.get_eq _ _ _);clear hltq;try refine zU ?_)|(refine LS.nilQ ?_;try with_reducible intro nq hnq;try refine zU ?_))
      exact ⟨_, H', rfl, by exact zD, by rw [tb_false (fun h => h2 ⟨h.1, (h.2 i (by omega)).1⟩)], rfl⟩
    · (repeat first|refine zG ?_|(refine LS.nilO ?_;intro nq hnq hltq;try refine zU ?_)|(refine MS.new ?_;intro bq hbq hbqf;try refine zU ?_)|(refine MS.nil ?_;intro nq hnq hltq;have hlq:=hltq _ _ (Hp.get_eq _ _ _);clear hltq;try refine zU ?_)|(refine LS.nilQ ?_;try with_reducible intro nq hnq;try refine zU ?_))
      refine RS.sp (t := 24) rfl (fun h3 => ?_) (fun h3 => ?_) <;> (try simp only [tb_eq, tb_eqF, decide_eq_true_eq, decide_eq_false_iff_not, beq_iff_eq, bne_iff_ne, ne_eq, Decidable.not_not, beq_eq_false_iff_ne, bne_eq_false_iff_eq, Bool.not_eq_true', Bool.not_eq_false', Bool.not_eq_eq_eq_not, Bool.not_true, Bool.not_false] at h3)
      · (repeat first|refine zG ?_|(refine LS.nilO ?_;intro nq hnq hltq;try refine zU ?_)|(refine MS.new ?_;intro bq hbq hbqf;try refine zU ?_)|(refine MS.nil ?_;intro nq hnq hltq;have hlq:=hltq _ _ (Hp.get_eq _ _ _);clear hltq;try refine zU ?_)|(refine LS.nilQ ?_;try with_reducible intro nq hnq;try refine zU ?_))
        refine zI ?_ ?_<;>intro h4
        · (repeat first|refine zG ?_|(refine LS.nilO ?_;intro nq hnq hltq;try refine zU ?_)|(refine MS.new ?_;intro bq hbq hbqf;try refine zU ?_)|(refine MS.nil ?_;intro nq hnq hltq;have hlq:=hltq _ _ (Hp.get_eq _ _ _);clear hltq;try refine zU ?_)|(refine LS.nilQ ?_;try with_reducible intro nq hnq;try refine zU ?_))
          exact ⟨_, H', rfl, by exact zD, by rw [tb_false (fun h => h4 (fun x hx => (h.2 i (by omega)).2 (by omega) x hx))], rfl⟩
        · (repeat first|refine zG ?_|(refine LS.nilO ?_;intro nq hnq hltq;try refine zU ?_)|(refine MS.new ?_;intro bq hbq hbqf;try refine zU ?_)|(refine MS.nil ?_;intro nq hnq hltq;have hlq:=hltq _ _ (Hp.get_eq _ _ _);clear hltq;try refine zU ?_)|(refine LS.nilQ ?_;try with_reducible intro nq hnq;try refine zU ?_))
          refine ⟨by omega, by (repeat first | exact trivial | refine And.intro rfl ?_), by exact zD, fun _ => h2.1, fun j hj => ?_⟩
          by_cases e : j < i
          · exact hJ.2 j e
          · have : j = i := by omega
            subst this; exact ⟨h2.2, fun _ => h4⟩
      · (repeat first|refine zG ?_|(refine LS.nilO ?_;intro nq hnq hltq;try refine zU ?_)|(refine MS.new ?_;intro bq hbq hbqf;try refine zU ?_)|(refine MS.nil ?_;intro nq hnq hltq;have hlq:=hltq _ _ (Hp.get_eq _ _ _);clear hltq;try refine zU ?_)|(refine LS.nilQ ?_;try with_reducible intro nq hnq;try refine zU ?_))
        refine ⟨by omega, by (repeat first | exact trivial | refine And.intro rfl ?_), by exact zD, fun _ => h2.1, fun j hj => ?_⟩
        by_cases e : j < i
        · exact hJ.2 j e
        · have : j = i := by omega
          subst this; exact ⟨h2.2, fun h => by omega⟩
  · (repeat first|refine zG ?_|(refine LS.nilO ?_;intro nq hnq hltq;try refine zU ?_)|(refine MS.new ?_;intro bq hbq hbqf;try refine zU ?_)|(refine MS.nil ?_;intro nq hnq hltq;have hlq:=hltq _ _ (Hp.get_eq _ _ _);clear hltq;try refine zU ?_)|(refine LS.nilQ ?_;try with_reducible intro nq hnq;try refine zU ?_))
    exact ⟨_, _, rfl, by exact zD, by rw [tb_true (show sz p n' ∧ isTab p n' t from ⟨hJ.1 (by omega), fun j hj => hJ.2 j (by omega)⟩)], rfl⟩
/-- spec.l01Shape -/
def ir41 : Cd := (.seq (.reg [⟨some 1,none,.box 35 (.t 0)⟩,⟨some 2,none,.mov (.c (.bool false))⟩]) (.seq (.reg [⟨some 3,none,.fa 0 (.t 1)⟩,⟨some 4,none,.ld none (.t 3)⟩,⟨some 5,none,.fa 1 (.t 1)⟩,⟨some 6,none,.ld none (.t 5)⟩,⟨some 7,none,.call 51 [(.t 4),(.t 6)]⟩,⟨some 8,none,.mov (.t 7)⟩,⟨some 9,(some (8,true)),.fa 0 (.t 1)⟩,⟨some 10,(some (8,true)),.ld none (.t 9)⟩,⟨some 11,(some (8,true)),.fa 1 (.t 1)⟩,⟨some 12,(some (8,true)),.ld none (.t 11)⟩,⟨some 13,(some (8,true)),.fa 2 (.t 1)⟩,⟨some 14,(some (8,true)),.ld (some 8) (.t 13)⟩,⟨some 15,(some (8,true)),.call 22 [(.t 10),(.t 12),(.t 14)]⟩,⟨some 16,none,.pick (.t 8) (.t 15) (.c (.bool false))⟩,⟨some 17,none,.mov (.t 16)⟩,⟨some 18,(some (17,true)),.fa 0 (.t 1)⟩,⟨some 19,(some (17,true)),.ld none (.t 18)⟩,⟨some 20,(some (17,true)),.fa 1 (.t 1)⟩,⟨some 21,(some (17,true)),.ld none (.t 20)⟩,⟨some 22,(some (17,true)),.fa 10 (.t 1)⟩,⟨some 23,(some (17,true)),.ld (some 512) (.t 22)⟩,⟨some 24,(some (17,true)),.call 52 [(.t 19),(.t 21),(.t 23)]⟩,⟨some 25,none,.pick (.t 17) (.t 24) (.c (.bool false))⟩,⟨some 2,none,.mov (.t 25)⟩]) .ret))
set_option maxRecDepth 100000 in
theorem tr41 : trFn Try.prog Try.f41 = some (26, ir41, [.tmp 2]) := by kernel_rfl
theorem spec_l01Shape (p n' : Int) (u m : Nat → Int) (K : Nat → SV) (H : Hp) (n : Nat) (h0 : K 0 = .int .i64 p) (h1 : K 1 = .int .i64 n')
    (hU : ∀ q, q < 8 → K (2 + q) = .int .u8 (u q)) (hK : ∀ q, q < 512 → K (10 + q) = .int .u8 (m q)) (hu : isBy 8 u) (hm : isBy 512 m) :
    FnS Try.prog 41 [.arr 522 K] H n (fun v H' _ => v = bl (tb (shp p n' u m)) ∧ H' = H) := by
  refine FnS.of_body Try.func41 tr41 (by simp) (fun hf => ?_)
  dsimp only [argEnv]
  unfold ir41
  (repeat first|refine zG ?_|(refine LS.nilO ?_;intro nq hnq hltq;try refine zU ?_)|(refine MS.new ?_;intro bq hbq hbqf;try refine zU ?_)|(refine MS.nil ?_;intro nq hnq hltq;have hlq:=hltq _ _ (Hp.get_eq _ _ _);clear hltq;try refine zU ?_)|(refine LS.nilQ ?_;try with_reducible intro nq hnq;try refine zU ?_))
  refine RS.call rfl ((spec_l01Sizes _ _ _ _).mono ?_)
  rintro r H' n2 hn2 ⟨rfl, rfl⟩
  (repeat first|refine zG ?_|(refine LS.nilO ?_;intro nq hnq hltq;try refine zU ?_)|(refine MS.new ?_;intro bq hbq hbqf;try refine zU ?_)|(refine MS.nil ?_;intro nq hnq hltq;have hlq:=hltq _ _ (Hp.get_eq _ _ _);clear hltq;try refine zU ?_)|(refine LS.nilQ ?_;try with_reducible intro nq hnq;try refine zU ?_))
  refine RS.sp (t := 8) rfl (fun h2 => ?_) (fun h2 => ?_) <;> (try simp only [tb_eq, tb_eqF, decide_eq_true_eq, decide_eq_false_iff_not, beq_iff_eq, bne_iff_ne, ne_eq, Decidable.not_not, beq_eq_false_iff_ne, bne_eq_false_iff_eq, Bool.not_eq_true', Bool.not_eq_false', Bool.not_eq_eq_eq_not, Bool.not_true, Bool.not_false] at h2)
  · (repeat first|refine zG ?_|(refine LS.nilO ?_;intro nq hnq hltq;try refine zU ?_)|(refine MS.new ?_;intro bq hbq hbqf;try refine zU ?_)|(refine MS.nil ?_;intro nq hnq hltq;have hlq:=hltq _ _ (Hp.get_eq _ _ _);clear hltq;try refine zU ?_)|(refine LS.nilQ ?_;try with_reducible intro nq hnq;try refine zU ?_))
    refine RS.call rfl ((spec_l01Vector p n' u _ _ hu).mono ?_)
    rintro r H' n3 hn3 ⟨rfl, rfl⟩
    (repeat first|refine zG ?_|(refine LS.nilO ?_;intro nq hnq hltq;try refine zU ?_)|(refine MS.new ?_;intro bq hbq hbqf;try refine zU ?_)|(refine MS.nil ?_;intro nq hnq hltq;have hlq:=hltq _ _ (Hp.get_eq _ _ _);clear hltq;try refine zU ?_)|(refine LS.nilQ ?_;try with_reducible intro nq hnq;try refine zU ?_))
    refine RS.sp (t := 17) rfl (fun h3 => ?_) (fun h3 => ?_) <;> (try simp only [tb_eq, tb_eqF, decide_eq_true_eq, decide_eq_false_iff_not, beq_iff_eq, bne_iff_ne, ne_eq, Decidable.not_not, beq_eq_false_iff_ne, bne_eq_false_iff_eq, Bool.not_eq_true', Bool.not_eq_false', Bool.not_eq_eq_eq_not, Bool.not_true, Bool.not_false] at h3)
    · (repeat first|refine zG ?_|(refine LS.nilO ?_;intro nq hnq hltq;try refine zU ?_)|(refine MS.new ?_;intro bq hbq hbqf;try refine zU ?_)|(refine MS.nil ?_;intro nq hnq hltq;have hlq:=hltq _ _ (Hp.get_eq _ _ _);clear hltq;try refine zU ?_)|(refine LS.nilQ ?_;try with_reducible intro nq hnq;try refine zU ?_))
      refine RS.call rfl ((spec_l01Table p n' m _ _ hm).mono ?_)
      rintro r H' n4 hn4 ⟨rfl, rfl⟩
      (repeat first|refine zG ?_|(refine LS.nilO ?_;intro nq hnq hltq;try refine zU ?_)|(refine MS.new ?_;intro bq hbq hbqf;try refine zU ?_)|(refine MS.nil ?_;intro nq hnq hltq;have hlq:=hltq _ _ (Hp.get_eq _ _ _);clear hltq;try refine zU ?_)|(refine LS.nilQ ?_;try with_reducible intro nq hnq;try refine zU ?_))
      exact ⟨_, H, rfl, by exact zD, congrArg bl (tb_iff ⟨fun h => ⟨h2, h3, h⟩, fun h => h.2.2⟩), rfl⟩
    · (repeat first|refine zG ?_|(refine LS.nilO ?_;intro nq hnq hltq;try refine zU ?_)|(refine MS.new ?_;intro bq hbq hbqf;try refine zU ?_)|(refine MS.nil ?_;intro nq hnq hltq;have hlq:=hltq _ _ (Hp.get_eq _ _ _);clear hltq;try refine zU ?_)|(refine LS.nilQ ?_;try with_reducible intro nq hnq;try refine zU ?_))
      exact ⟨_, H, rfl, by exact zD, by rw [tb_false (fun h => h3 h.2.1)], rfl⟩
  · (repeat first|refine zG ?_|(refine LS.nilO ?_;intro nq hnq hltq;try refine zU ?_)|(refine MS.new ?_;intro bq hbq hbqf;try refine zU ?_)|(refine MS.nil ?_;intro nq hnq hltq;have hlq:=hltq _ _ (Hp.get_eq _ _ _);clear hltq;try refine zU ?_)|(refine LS.nilQ ?_;try with_reducible intro nq hnq;try refine zU ?_))
    exact ⟨_, H, rfl, by exact zD, by rw [tb_false (fun h => h2 h.1)], rfl⟩
/-- (*impl.Algebra).isShaped -/
def ir45 : Cd := (.seq (.reg [⟨some 2,none,.mov (.c (.bool false))⟩]) (.seq (.drw true [25] [⟨some 3,none,.mov (.t 0)⟩,⟨some 4,none,.ck (.t 3)⟩,⟨some 5,none,.fa 0 (.t 4)⟩,⟨some 6,none,.ld none (.t 5)⟩,⟨some 7,none,.mov (.t 0)⟩,⟨some 8,none,.ck (.t 7)⟩,⟨some 9,none,.fa 1 (.t 8)⟩,⟨some 10,none,.ld none (.t 9)⟩,⟨some 11,none,.mov (.t 0)⟩,⟨some 12,none,.ck (.t 11)⟩,⟨some 13,none,.fa 2 (.t 12)⟩,⟨some 14,none,.ld (some 8) (.t 13)⟩,⟨some 15,none,.call 49 [(.t 6),(.t 10),(.t 14)]⟩,⟨some 16,none,.mov (.t 15)⟩,⟨some 17,(some (16,true)),.mov (.t 0)⟩,⟨some 18,(some (16,true)),.ck (.t 17)⟩,⟨some 19,(some (16,true)),.fa 0 (.t 18)⟩,⟨some 20,(some (16,true)),.ld none (.t 19)⟩,⟨some 21,(some (16,true)),.mov (.t 0)⟩,⟨some 22,(some (16,true)),.ck (.t 21)⟩,⟨some 23,(some (16,true)),.fa 1 (.t 22)⟩,⟨some 24,(some (16,true)),.ld none (.t 23)⟩,⟨some 25,(some (16,true)),.mov (.t 0)⟩,⟨some 26,(some (16,true)),.ck (.t 25)⟩,⟨some 27,(some (16,true)),.fa 10 (.t 26)⟩,⟨some 28,(some (16,true)),.call 53 [(.t 20),(.t 24),(.t 27)]⟩,⟨some 29,none,.pick (.t 16) (.t 28) (.c (.bool false))⟩,⟨some 2,none,.mov (.t 29)⟩]) .ret))
set_option maxRecDepth 100000 in
theorem tr45 : trFn Try.prog Try.f45 = some (30, ir45, [.tmp 2]) := by kernel_rfl
theorem Algebra_isShaped (p n' : Int) (u m : Nat → Int) (b : Nat) (K : Blk) (H : Hp) (n : Nat) (hb : H.get b = some K) (hsz : K.size = 522) (h0 : K.c 0 = .int .i64 p) (h1 : K.c 1 = .int .i64 n')
    (hU : ∀ q, q < 8 → K.c (2 + q) = .int .u8 (u q)) (hK : ∀ q, q < 512 → K.c (10 + q) = .int .u8 (m q)) (hu : isBy 8 u) (hm : isBy 512 m) :
    FnS Try.prog 45 [ptr b 0] H n (fun v H' _ => v = bl (tb (shp p n' u m)) ∧ H' = H) := by
  refine FnS.of_body Try.func45 tr45 (by simp) (fun hf => ?_)
  dsimp only [argEnv]
  unfold ir45
  have hbn := getlt hf hb
  (repeat first|refine zG ?_|(refine LS.nilO ?_;intro nq hnq hltq;try refine zU ?_)|(refine MS.new ?_;intro bq hbq hbqf;try refine zU ?_)|(refine MS.nil ?_;intro nq hnq hltq;have hlq:=hltq _ _ (Hp.get_eq _ _ _);clear hltq;try refine zU ?_)|(refine LS.nilQ ?_;try with_reducible intro nq hnq;try refine zU ?_))
  refine LS.callQ (bl (tb (sz p n' ∧ isVec p n' u))) rfl (fun n' hn' => impl_IsVector _ _ u _ _ hu) ?_
  (repeat first|refine zG ?_|(refine LS.nilO ?_;intro nq hnq hltq;try refine zU ?_)|(refine MS.new ?_;intro bq hbq hbqf;try refine zU ?_)|(refine MS.nil ?_;intro nq hnq hltq;have hlq:=hltq _ _ (Hp.get_eq _ _ _);clear hltq;try refine zU ?_)|(refine LS.nilQ ?_;try with_reducible intro nq hnq;try refine zU ?_))
  refine RS.sp (t := 16) rfl (fun h2 => ?_) (fun h2 => ?_) <;> (try simp only [tb_eq, tb_eqF, decide_eq_true_eq, decide_eq_false_iff_not, beq_iff_eq, bne_iff_ne, ne_eq, Decidable.not_not, beq_eq_false_iff_ne, bne_eq_false_iff_eq, Bool.not_eq_true', Bool.not_eq_false', Bool.not_eq_eq_eq_not, Bool.not_true, Bool.not_false] at h2)
  · (repeat first|refine zG ?_|(refine LS.nilO ?_;intro nq hnq hltq;try refine zU ?_)|(refine MS.new ?_;intro bq hbq hbqf;try refine zU ?_)|(refine MS.nil ?_;intro nq hnq hltq;have hlq:=hltq _ _ (Hp.get_eq _ _ _);clear hltq;try refine zU ?_)|(refine LS.nilQ ?_;try with_reducible intro nq hnq;try refine zU ?_))
    refine RS.call rfl ((impl_isTable p n' m b 10 K _ _ hb (by omega) hK hm).mono ?_)
    rintro r H' n3 hn3 ⟨rfl, rfl⟩
    (repeat first|refine zG ?_|(refine LS.nilO ?_;intro nq hnq hltq;try refine zU ?_)|(refine MS.new ?_;intro bq hbq hbqf;try refine zU ?_)|(refine MS.nil ?_;intro nq hnq hltq;have hlq:=hltq _ _ (Hp.get_eq _ _ _);clear hltq;try refine zU ?_)|(refine LS.nilQ ?_;try with_reducible intro nq hnq;try refine zU ?_))
    exact ⟨_, _, rfl, by exact zD, congrArg bl (tb_iff ⟨fun h => ⟨h.1, h2.2, h.2⟩, fun h => ⟨h.1, h.2.2⟩⟩), rfl⟩
  · (repeat first|refine zG ?_|(refine LS.nilO ?_;intro nq hnq hltq;try refine zU ?_)|(refine MS.new ?_;intro bq hbq hbqf;try refine zU ?_)|(refine MS.nil ?_;intro nq hnq hltq;have hlq:=hltq _ _ (Hp.get_eq _ _ _);clear hltq;try refine zU ?_)|(refine LS.nilQ ?_;try with_reducible intro nq hnq;try refine zU ?_))
    exact ⟨_, _, rfl, by exact zD, by rw [tb_false (fun h => h2 ⟨h.1, h.2.1⟩)], rfl⟩
end Go.Proofs.Ytdellpnmbgjofaa
