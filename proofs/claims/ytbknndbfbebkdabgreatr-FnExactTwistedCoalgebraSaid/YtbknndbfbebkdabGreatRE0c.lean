/- Contracts of the program's functions. -/
import Derived.Test.YtbknndbfbebkdabGreatRR
import Derived.Test.YtbknndbfbebkdabGreatRLW
import Derived.Test.YtbknndbfbebkdabGreatRE00
namespace Go.Proofs.YtbknndbfbebkdabGreatR
open Go.V
set_option linter.unusedSimpArgs false
set_option linter.unusedVariables false
set_option maxHeartbeats 4000000
/-- spec.l01In -/
def ir132 : Cd := (.seq (.reg [⟨some 6,none,.mov (.c (.bool false))⟩]) (.seq (.reg [⟨some 7,none,.mov (.t 0)⟩,⟨some 8,none,.mov (.t 1)⟩,⟨some 9,none,.bin .geq (.t 7) (.t 8)⟩,⟨some 10,none,.mov (.t 9)⟩,⟨some 11,(some (10,true)),.mov (.t 0)⟩,⟨some 12,(some (10,true)),.mov (.t 2)⟩,⟨some 13,(some (10,true)),.bin .leq (.t 11) (.t 12)⟩,⟨some 14,none,.pick (.t 10) (.t 13) (.c (.bool false))⟩,⟨some 6,none,.mov (.t 14)⟩]) .ret))
set_option maxRecDepth 100000 in
theorem tr132 : trFn Tryz.prog Tryz.f132 = some (15, ir132, [.tmp 6]) := by kernel_rfl
theorem spec_l01In (x a b : Int) (H : Hp) (n : Nat) :
    FnS Tryz.prog 132 [i64 x, i64 a, i64 b] H n (fun v H' _ => v = bl (decide (a ≤ x ∧ x ≤ b)) ∧ H' = H) := by
  refine FnS.of_body Tryz.func132 tr132 (by simp) (fun hf => ?_)
  dsimp only [argEnv]
  unfold ir132
  (repeat first|refine zG ?_|(refine LS.nilO ?_;intro nq hnq hltq;try refine zU ?_)|(refine MS.new ?_;intro bq hbq hbqf;try refine zU ?_)|(refine MS.nil ?_;intro nq hnq hltq;have hlq:=hltq _ _ (Hp.get_eq _ _ _);clear hltq;try refine zU ?_)|(refine LS.nilQ ?_;try with_reducible intro nq hnq;try refine zU ?_))
  refine RS.sp (t := 10) rfl (fun h => ?_) (fun h => ?_) <;> (try simp only [tb_eq, tb_eqF, decide_eq_true_eq, decide_eq_false_iff_not, beq_iff_eq, bne_iff_ne, ne_eq, Decidable.not_not, beq_eq_false_iff_ne, bne_eq_false_iff_eq, Bool.not_eq_true', Bool.not_eq_false', Bool.not_eq_eq_eq_not, Bool.not_true, Bool.not_false] at h)
  all_goals
    (repeat first|refine zG ?_|(refine LS.nilO ?_;intro nq hnq hltq;try refine zU ?_)|(refine MS.new ?_;intro bq hbq hbqf;try refine zU ?_)|(refine MS.nil ?_;intro nq hnq hltq;have hlq:=hltq _ _ (Hp.get_eq _ _ _);clear hltq;try refine zU ?_)|(refine LS.nilQ ?_;try with_reducible intro nq hnq;try refine zU ?_))
    exact ⟨_, H, rfl, by exact zD, by simp [h], rfl⟩
/-- impl.IsPrime -/
def ir114 : Cd := (.seq (.reg [⟨some 2,none,.mov (.c (.bool false))⟩]) (.seq (.seq (.reg [⟨some 4,none,.mov (.t 0)⟩,⟨some 5,none,.bin .lss (.t 4) (.c (.int .i64 2))⟩,⟨some 6,none,.mov (.t 5)⟩,⟨some 7,(some (6,false)),.mov (.t 0)⟩,⟨some 8,(some (6,false)),.bin .gtr (.t 7) (.c (.int .i64 31))⟩,⟨some 9,none,.pick (.t 6) (.c (.bool true)) (.t 8)⟩]) (.cond (.t 9) (.seq (.reg [⟨some 2,none,.mov (.c (.bool false))⟩]) .ret) .skip)) (.seq (.seq (.reg [⟨some 3,none,.mov (.c (.int .i64 2))⟩]) (.block 0 (.loop (.seq (.seq (.reg [⟨some 10,none,.mov (.t 3)⟩,⟨some 11,none,.mov (.t 3)⟩,⟨some 12,none,.bin .mul (.t 10) (.t 11)⟩,⟨some 13,none,.mov (.t 0)⟩,⟨some 14,none,.bin .leq (.t 12) (.t 13)⟩]) (.cond (.t 14) .skip (.exit 0))) (.seq (.block 1 (.seq (.reg [⟨some 17,none,.mov (.t 0)⟩,⟨some 18,none,.mov (.t 3)⟩,⟨some 19,none,.bin .rem (.t 17) (.t 18)⟩,⟨some 20,none,.bin .eql (.t 19) (.c (.int .i64 0))⟩]) (.cond (.t 20) (.seq (.reg [⟨some 2,none,.mov (.c (.bool false))⟩]) .ret) .skip))) (.reg [⟨some 15,none,.mov (.t 3)⟩,⟨some 16,none,.bin .add (.t 15) (.c (.int .i64 1))⟩,⟨some 3,none,.mov (.t 16)⟩])))))) (.seq (.reg [⟨some 2,none,.mov (.c (.bool true))⟩]) .ret))))
set_option maxRecDepth 100000 in
theorem tr114 : trFn Tryz.prog Tryz.f114 = some (21, ir114, [.tmp 2]) := by kernel_rfl
theorem impl_IsPrime (p : Int) (H : Hp) (n : Nat) :
    FnS Tryz.prog 114 [i64 p] H n (fun v H' _ => v = bl (isP p) ∧ H' = H) := by
  refine FnS.of_body Tryz.func114 tr114 (by simp) (fun hf => ?_)
  dsimp only [argEnv]
  unfold ir114
  (repeat first|refine zG ?_|(refine LS.nilO ?_;intro nq hnq hltq;try refine zU ?_)|(refine MS.new ?_;intro bq hbq hbqf;try refine zU ?_)|(refine MS.nil ?_;intro nq hnq hltq;have hlq:=hltq _ _ (Hp.get_eq _ _ _);clear hltq;try refine zU ?_)|(refine LS.nilQ ?_;try with_reducible intro nq hnq;try refine zU ?_))
  refine RS.sp (t := 6) rfl (fun h1 => ?_) (fun h1 => ?_) <;> (try simp only [tb_eq, tb_eqF, decide_eq_true_eq, decide_eq_false_iff_not, beq_iff_eq, bne_iff_ne, ne_eq, Decidable.not_not, beq_eq_false_iff_ne, bne_eq_false_iff_eq, Bool.not_eq_true', Bool.not_eq_false', Bool.not_eq_eq_eq_not, Bool.not_true, Bool.not_false] at h1)
  · (repeat first|refine zG ?_|(refine LS.nilO ?_;intro nq hnq hltq;try refine zU ?_)|(refine MS.new ?_;intro bq hbq hbqf;try refine zU ?_)|(refine MS.nil ?_;intro nq hnq hltq;have hlq:=hltq _ _ (Hp.get_eq _ _ _);clear hltq;try refine zU ?_)|(refine LS.nilQ ?_;try with_reducible intro nq hnq;try refine zU ?_))
    exact ⟨_, H, rfl, by exact zD, by rw [isP_out (.inl h1)], rfl⟩
  · (repeat first|refine zG ?_|(refine LS.nilO ?_;intro nq hnq hltq;try refine zU ?_)|(refine MS.new ?_;intro bq hbq hbqf;try refine zU ?_)|(refine MS.nil ?_;intro nq hnq hltq;have hlq:=hltq _ _ (Hp.get_eq _ _ _);clear hltq;try refine zU ?_)|(refine LS.nilQ ?_;try with_reducible intro nq hnq;try refine zU ?_))
    refine zI ?_ ?_<;>intro h2
    · skip
      (repeat first|refine zG ?_|(refine LS.nilO ?_;intro nq hnq hltq;try refine zU ?_)|(refine MS.new ?_;intro bq hbq hbqf;try refine zU ?_)|(refine MS.nil ?_;intro nq hnq hltq;have hlq:=hltq _ _ (Hp.get_eq _ _ _);clear hltq;try refine zU ?_)|(refine LS.nilQ ?_;try with_reducible intro nq hnq;try refine zU ?_))
      exact ⟨_, H, rfl, by exact zD, by rw [isP_out (.inr h2)], rfl⟩
    · skip
      (repeat first|refine zG ?_|(refine LS.nilO ?_;intro nq hnq hltq;try refine zU ?_)|(refine MS.new ?_;intro bq hbq hbqf;try refine zU ?_)|(refine MS.nil ?_;intro nq hnq hltq;have hlq:=hltq _ _ (Hp.get_eq _ _ _);clear hltq;try refine zU ?_)|(refine LS.nilQ ?_;try with_reducible intro nq hnq;try refine zU ?_))
      refine CS.iter 31 (fun i => [(3, i64 (i + 2 : Nat)), (0, i64 p)]) (fun _ => H) (fun i => i < 6 ∧ ∀ k : Nat, 2 ≤ k → k < i + 2 → p % k ≠ 0) ⟨rfl, rfl, trivial⟩ (Drops.refl _ _) ⟨by omega, fun k h1 h2 => by omega⟩ ?_
      intro i n1 hi hn ⟨hi6, hJ⟩
      have hsq : 0 ≤ ((i + 2 : Nat) : Int) * ((i + 2 : Nat) : Int) ∧ ((i + 2 : Nat) : Int) * ((i + 2 : Nat) : Int) ≤ 8 * 8 := mulB (by omega) (by omega) (by omega) (by omega)
      (repeat first|refine zG ?_|(refine LS.nilO ?_;intro nq hnq hltq;try refine zU ?_)|(refine MS.new ?_;intro bq hbq hbqf;try refine zU ?_)|(refine MS.nil ?_;intro nq hnq hltq;have hlq:=hltq _ _ (Hp.get_eq _ _ _);clear hltq;try refine zU ?_)|(refine LS.nilQ ?_;try with_reducible intro nq hnq;try refine zU ?_))
      refine zI ?_ ?_<;>intro h3
      · skip
        have hi4 : i + 2 < 6 := by
          rcases Nat.lt_or_ge (i + 2) 6 with h | h
          · exact h
          · have := mulB (a := 6) (b := 6) (A := ((i + 2 : Nat) : Int)) (B := ((i + 2 : Nat) : Int)) (by omega) (by omega) (by omega) (by omega)
            omega
        (repeat first|refine zG ?_|(refine LS.nilO ?_;intro nq hnq hltq;try refine zU ?_)|(refine MS.new ?_;intro bq hbq hbqf;try refine zU ?_)|(refine MS.nil ?_;intro nq hnq hltq;have hlq:=hltq _ _ (Hp.get_eq _ _ _);clear hltq;try refine zU ?_)|(refine LS.nilQ ?_;try with_reducible intro nq hnq;try refine zU ?_))
        refine zI ?_ ?_<;>intro h4
        · skip
          (repeat first|refine zG ?_|(refine LS.nilO ?_;intro nq hnq hltq;try refine zU ?_)|(refine MS.new ?_;intro bq hbq hbqf;try refine zU ?_)|(refine MS.nil ?_;intro nq hnq hltq;have hlq:=hltq _ _ (Hp.get_eq _ _ _);clear hltq;try refine zU ?_)|(refine LS.nilQ ?_;try with_reducible intro nq hnq;try refine zU ?_))
          exact ⟨_, H, rfl, by exact zD, by rw [isP_div (k := i + 2) (by omega) (by
            have : ((i + 2 : Nat) : Int) * 2 ≤ ((i + 2 : Nat) : Int) * ((i + 2 : Nat) : Int) := Int.mul_le_mul_of_nonneg_left (by omega) (by omega)
            omega) h4], rfl⟩
        · skip
          (repeat first|refine zG ?_|(refine LS.nilO ?_;intro nq hnq hltq;try refine zU ?_)|(refine MS.new ?_;intro bq hbq hbqf;try refine zU ?_)|(refine MS.nil ?_;intro nq hnq hltq;have hlq:=hltq _ _ (Hp.get_eq _ _ _);clear hltq;try refine zU ?_)|(refine LS.nilQ ?_;try with_reducible intro nq hnq;try refine zU ?_))
          refine ⟨by omega, by (repeat first | exact trivial | refine And.intro rfl ?_), by exact zD, by omega, fun k h5 h6 => ?_⟩
          by_cases h7 : k < i + 2
          · exact hJ k h5 h7
          · have : k = i + 2 := by omega
            subst this
            exact h4
      · skip
        (repeat first|refine zG ?_|(refine LS.nilO ?_;intro nq hnq hltq;try refine zU ?_)|(refine MS.new ?_;intro bq hbq hbqf;try refine zU ?_)|(refine MS.nil ?_;intro nq hnq hltq;have hlq:=hltq _ _ (Hp.get_eq _ _ _);clear hltq;try refine zU ?_)|(refine LS.nilQ ?_;try with_reducible intro nq hnq;try refine zU ?_))
        refine ⟨_, H, rfl, by exact zD, ?_, rfl⟩
        rw [isP_yes (by omega) (by omega) (fun k h5 h6 => hJ k h5 (by
          rcases Nat.lt_or_ge k (i + 2) with h | h
          · exact h
          · have h8 : (i + 2) * (i + 2) ≤ k * k := Nat.mul_le_mul h h
            have h9 : (((i + 2) * (i + 2) : Nat) : Int) ≤ ((k * k : Nat) : Int) := Int.ofNat_le.2 h8
            rw [Int.natCast_mul] at h9
            omega))]
/-- (impl.field).mod -/
def ir82 : Cd := (.seq (.reg [⟨some 2,none,.box 85 (.t 0)⟩,⟨some 4,none,.mov (.c (.int .u8 0))⟩]) (.seq (.reg [⟨some 5,none,.mov (.t 1)⟩,⟨some 6,none,.fa 0 (.t 2)⟩,⟨some 7,none,.ld none (.t 6)⟩,⟨some 8,none,.bin .rem (.t 5) (.t 7)⟩,⟨some 1,none,.mov (.t 8)⟩]) (.seq (.seq (.reg [⟨some 9,none,.mov (.t 1)⟩,⟨some 10,none,.bin .lss (.t 9) (.c (.int .i64 0))⟩]) (.cond (.t 10) (.reg [⟨some 11,none,.mov (.t 1)⟩,⟨some 12,none,.fa 0 (.t 2)⟩,⟨some 13,none,.ld none (.t 12)⟩,⟨some 14,none,.bin .add (.t 11) (.t 13)⟩,⟨some 1,none,.mov (.t 14)⟩]) .skip)) (.seq (.reg [⟨some 15,none,.mov (.t 1)⟩,⟨some 16,none,.cv .u8 (.t 15)⟩,⟨some 4,none,.mov (.t 16)⟩]) .ret))))
set_option maxRecDepth 100000 in
theorem tr82 : trFn Tryz.prog Tryz.f82 = some (17, ir82, [.tmp 4]) := by kernel_rfl
theorem field_mod (p n' x : Int) (H : Hp) (n : Nat) (hp : 2 ≤ p) (hp2 : p ≤ 31) (hx : -1000000000 ≤ x ∧ x ≤ 1000000000) :
    FnS Tryz.prog 82 [fld p n', i64 x] H n (fun v H' _ => v = u8 (x % p) ∧ H' = H) := by
  have h1 := Int.emod_nonneg x (show p ≠ 0 by omega)
  have h2 := Int.emod_lt_of_pos x (show (0 : Int) < p by omega)
  refine FnS.of_body Tryz.func82 tr82 (by simp) (fun hf => ?_)
  dsimp only [argEnv]
  unfold ir82
  by_cases h0 : 0 ≤ x
  · (repeat first|refine zG ?_|(refine LS.nilO ?_;intro nq hnq hltq;try refine zU ?_)|(refine MS.new ?_;intro bq hbq hbqf;try refine zU ?_)|(refine MS.nil ?_;intro nq hnq hltq;have hlq:=hltq _ _ (Hp.get_eq _ _ _);clear hltq;try refine zU ?_)|(refine LS.nilQ ?_;try with_reducible intro nq hnq;try refine zU ?_))
    refine zI ?_ ?_<;>intro h
    · exfalso; omega
    · (repeat first|refine zG ?_|(refine LS.nilO ?_;intro nq hnq hltq;try refine zU ?_)|(refine MS.new ?_;intro bq hbq hbqf;try refine zU ?_)|(refine MS.nil ?_;intro nq hnq hltq;have hlq:=hltq _ _ (Hp.get_eq _ _ _);clear hltq;try refine zU ?_)|(refine LS.nilQ ?_;try with_reducible intro nq hnq;try refine zU ?_))
      exact ⟨_, H, rfl, by exact zD, rfl, rfl⟩
  · obtain ⟨t1, t2, t3⟩ := tmod_facts x p hp
    have hb : (x % p = 0 ∧ x.tmod p = 0) ∨ (x % p ≠ 0 ∧ x.tmod p = x % p - p) := by
      by_cases hz : x % p = 0
      · exact .inl ⟨hz, t1 hz⟩
      · exact .inr ⟨hz, t3 hz (by omega)⟩
    clear t1 t2 t3
    (repeat first|refine zG ?_|(refine LS.nilO ?_;intro nq hnq hltq;try refine zU ?_)|(refine MS.new ?_;intro bq hbq hbqf;try refine zU ?_)|(refine MS.nil ?_;intro nq hnq hltq;have hlq:=hltq _ _ (Hp.get_eq _ _ _);clear hltq;try refine zU ?_)|(refine LS.nilQ ?_;try with_reducible intro nq hnq;try refine zU ?_))
    refine RS.remt rfl rfl (by omega) ?_
    (repeat first|refine zG ?_|(refine LS.nilO ?_;intro nq hnq hltq;try refine zU ?_)|(refine MS.new ?_;intro bq hbq hbqf;try refine zU ?_)|(refine MS.nil ?_;intro nq hnq hltq;have hlq:=hltq _ _ (Hp.get_eq _ _ _);clear hltq;try refine zU ?_)|(refine LS.nilQ ?_;try with_reducible intro nq hnq;try refine zU ?_))
    generalize x.tmod p = t at hb ⊢
    refine zI ?_ ?_<;>intro h
    · have : t + p = x % p := by omega
      (repeat first|refine zG ?_|(refine LS.nilO ?_;intro nq hnq hltq;try refine zU ?_)|(refine MS.new ?_;intro bq hbq hbqf;try refine zU ?_)|(refine MS.nil ?_;intro nq hnq hltq;have hlq:=hltq _ _ (Hp.get_eq _ _ _);clear hltq;try refine zU ?_)|(refine LS.nilQ ?_;try with_reducible intro nq hnq;try refine zU ?_))
      exact ⟨u8 (x % p), H, by simp only [this], by exact zD, rfl, rfl⟩
    · have : t = x % p := by omega
      subst this
      (repeat first|refine zG ?_|(refine LS.nilO ?_;intro nq hnq hltq;try refine zU ?_)|(refine MS.new ?_;intro bq hbq hbqf;try refine zU ?_)|(refine MS.nil ?_;intro nq hnq hltq;have hlq:=hltq _ _ (Hp.get_eq _ _ _);clear hltq;try refine zU ?_)|(refine LS.nilQ ?_;try with_reducible intro nq hnq;try refine zU ?_))
      exact ⟨_, H, rfl, by exact zD, rfl, rfl⟩
/-- spec.l01Vector -/
def ir69 : Cd := (.seq (.reg [⟨some 5,none,.box 27 (.t 2)⟩,⟨some 6,none,.mov (.c (.bool false))⟩]) (.seq (.seq (.reg [⟨some 7,none,.mov (.c (.int .i64 0))⟩]) (.block 0 (.loop (.seq (.seq (.reg [⟨some 8,none,.mov (.t 7)⟩,⟨some 9,none,.bin .lss (.t 8) (.c (.int .i64 8))⟩]) (.cond (.t 9) .skip (.exit 0))) (.seq (.block 1 (.seq (.reg [⟨some 12,none,.mov (.t 7)⟩,⟨some 13,none,.ia 8 1 (.t 5) (.t 12)⟩,⟨some 14,none,.ld none (.t 13)⟩,⟨some 15,none,.cv .i64 (.t 14)⟩,⟨some 16,none,.mov (.t 0)⟩,⟨some 17,none,.bin .geq (.t 15) (.t 16)⟩,⟨some 18,none,.mov (.t 17)⟩,⟨some 19,(some (18,false)),.mov (.t 7)⟩,⟨some 20,(some (18,false)),.mov (.t 1)⟩,⟨some 21,(some (18,false)),.bin .geq (.t 19) (.t 20)⟩,⟨some 22,(some (18,false)),.mov (.t 21)⟩,⟨some 23,(some (22,true)),.mov (.t 7)⟩,⟨some 24,(some (22,true)),.ia 8 1 (.t 5) (.t 23)⟩,⟨some 25,(some (22,true)),.ld none (.t 24)⟩,⟨some 26,(some (22,true)),.bin .neq (.t 25) (.c (.int .u8 0))⟩,⟨some 27,(some (18,false)),.pick (.t 22) (.t 26) (.c (.bool false))⟩,⟨some 28,none,.pick (.t 18) (.c (.bool true)) (.t 27)⟩]) (.cond (.t 28) (.seq (.reg [⟨some 6,none,.mov (.c (.bool false))⟩]) .ret) .skip))) (.reg [⟨some 10,none,.mov (.t 7)⟩,⟨some 11,none,.bin .add (.t 10) (.c (.int .i64 1))⟩,⟨some 7,none,.mov (.t 11)⟩])))))) (.seq (.reg [⟨some 6,none,.mov (.c (.bool true))⟩]) .ret)))
set_option maxRecDepth 100000 in
theorem tr69 : trFn Tryz.prog Tryz.f69 = some (29, ir69, [.tmp 6]) := by kernel_rfl
theorem spec_l01Vector (p n' : Int) (v : Nat → Int) (H : Hp) (n : Nat) (hv : isBy 8 v) :
    FnS Tryz.prog 69 [i64 p, i64 n', .arr 8 (bys v)] H n (fun r H' _ => r = bl (tb (isVec p n' v)) ∧ H' = H) := by
  refine FnS.of_body Tryz.func69 tr69 (by simp) (fun hf => ?_)
  dsimp only [argEnv]
  unfold ir69
  (repeat first|refine zG ?_|(refine LS.nilO ?_;intro nq hnq hltq;try refine zU ?_)|(refine MS.new ?_;intro bq hbq hbqf;try refine zU ?_)|(refine MS.nil ?_;intro nq hnq hltq;have hlq:=hltq _ _ (Hp.get_eq _ _ _);clear hltq;try refine zU ?_)|(refine LS.nilQ ?_;try with_reducible intro nq hnq;try refine zU ?_))
  refine CS.iter 8 (fun i => [(7, i64 i), (5, ptr n 0), (0, i64 p), (1, i64 n')]) (fun _ => (n, ⟨8, bys v, 27⟩) :: H) (fun i => ∀ j : Nat, j < i → v j < p ∧ (n' ≤ j → v j = 0)) (by (repeat first | exact trivial | refine And.intro rfl ?_)) (Drops.refl _ _) (fun j hj => by omega) ?_
  intro i n4 hi hn4 hJ
  (repeat first|refine zG ?_|(refine LS.nilO ?_;intro nq hnq hltq;try refine zU ?_)|(refine MS.new ?_;intro bq hbq hbqf;try refine zU ?_)|(refine MS.nil ?_;intro nq hnq hltq;have hlq:=hltq _ _ (Hp.get_eq _ _ _);clear hltq;try refine zU ?_)|(refine LS.nilQ ?_;try with_reducible intro nq hnq;try refine zU ?_))
  refine zI ?_ ?_<;>intro h3
  · have hvi := hv i (by omega)
    (repeat first|refine zG ?_|(refine LS.nilO ?_;intro nq hnq hltq;try refine zU ?_)|(refine MS.new ?_;intro bq hbq hbqf;try refine zU ?_)|(refine MS.nil ?_;intro nq hnq hltq;have hlq:=hltq _ _ (Hp.get_eq _ _ _);clear hltq;try refine zU ?_)|(refine LS.nilQ ?_;try with_reducible intro nq hnq;try refine zU ?_))
    refine RS.sp (t := 18) rfl (fun h4 => ?_) (fun h4 => ?_) <;> (try simp only [tb_eq, tb_eqF, decide_eq_true_eq, decide_eq_false_iff_not, beq_iff_eq, bne_iff_ne, ne_eq, Decidable.not_not, beq_eq_false_iff_ne, bne_eq_false_iff_eq, Bool.not_eq_true', Bool.not_eq_false', Bool.not_eq_eq_eq_not, Bool.not_true, Bool.not_false] at h4)
    · (repeat first|refine zG ?_|(refine LS.nilO ?_;intro nq hnq hltq;try refine zU ?_)|(refine MS.new ?_;intro bq hbq hbqf;try refine zU ?_)|(refine MS.nil ?_;intro nq hnq hltq;have hlq:=hltq _ _ (Hp.get_eq _ _ _);clear hltq;try refine zU ?_)|(refine LS.nilQ ?_;try with_reducible intro nq hnq;try refine zU ?_))
      exact ⟨_, H, rfl, by exact zD, by rw [tb_false (fun h => by have := (h i (by omega)).1; omega)], rfl⟩
    · (repeat first|refine zG ?_|(refine LS.nilO ?_;intro nq hnq hltq;try refine zU ?_)|(refine MS.new ?_;intro bq hbq hbqf;try refine zU ?_)|(refine MS.nil ?_;intro nq hnq hltq;have hlq:=hltq _ _ (Hp.get_eq _ _ _);clear hltq;try refine zU ?_)|(refine LS.nilQ ?_;try with_reducible intro nq hnq;try refine zU ?_))
      refine RS.sp (t := 22) rfl (fun h5 => ?_) (fun h5 => ?_) <;> (try simp only [tb_eq, tb_eqF, decide_eq_true_eq, decide_eq_false_iff_not, beq_iff_eq, bne_iff_ne, ne_eq, Decidable.not_not, beq_eq_false_iff_ne, bne_eq_false_iff_eq, Bool.not_eq_true', Bool.not_eq_false', Bool.not_eq_eq_eq_not, Bool.not_true, Bool.not_false] at h5)
      · (repeat first|refine zG ?_|(refine LS.nilO ?_;intro nq hnq hltq;try refine zU ?_)|(refine MS.new ?_;intro bq hbq hbqf;try refine zU ?_)|(refine MS.nil ?_;intro nq hnq hltq;have hlq:=hltq _ _ (Hp.get_eq _ _ _);clear hltq;try refine zU ?_)|(refine LS.nilQ ?_;try with_reducible intro nq hnq;try refine zU ?_))
        refine zI ?_ ?_<;>intro h6
        · (repeat first|refine zG ?_|(refine LS.nilO ?_;intro nq hnq hltq;try refine zU ?_)|(refine MS.new ?_;intro bq hbq hbqf;try refine zU ?_)|(refine MS.nil ?_;intro nq hnq hltq;have hlq:=hltq _ _ (Hp.get_eq _ _ _);clear hltq;try refine zU ?_)|(refine LS.nilQ ?_;try with_reducible intro nq hnq;try refine zU ?_))
          exact ⟨_, H, rfl, by exact zD, by rw [tb_false (fun h => h6 ((h i (by omega)).2 (by omega)))], rfl⟩
        · (repeat first|refine zG ?_|(refine LS.nilO ?_;intro nq hnq hltq;try refine zU ?_)|(refine MS.new ?_;intro bq hbq hbqf;try refine zU ?_)|(refine MS.nil ?_;intro nq hnq hltq;have hlq:=hltq _ _ (Hp.get_eq _ _ _);clear hltq;try refine zU ?_)|(refine LS.nilQ ?_;try with_reducible intro nq hnq;try refine zU ?_))
          refine ⟨by omega, by (repeat first | exact trivial | refine And.intro rfl ?_), by exact zD, fun j hj => ?_⟩
          by_cases e : j < i
          · exact hJ j e
          · have : j = i := by omega
            subst this; exact ⟨by omega, fun _ => h6⟩
      · (repeat first|refine zG ?_|(refine LS.nilO ?_;intro nq hnq hltq;try refine zU ?_)|(refine MS.new ?_;intro bq hbq hbqf;try refine zU ?_)|(refine MS.nil ?_;intro nq hnq hltq;have hlq:=hltq _ _ (Hp.get_eq _ _ _);clear hltq;try refine zU ?_)|(refine LS.nilQ ?_;try with_reducible intro nq hnq;try refine zU ?_))
        refine ⟨by omega, by (repeat first | exact trivial | refine And.intro rfl ?_), by exact zD, fun j hj => ?_⟩
        by_cases e : j < i
        · exact hJ j e
        · have : j = i := by omega
          subst this; exact ⟨by omega, fun h => by omega⟩
  · (repeat first|refine zG ?_|(refine LS.nilO ?_;intro nq hnq hltq;try refine zU ?_)|(refine MS.new ?_;intro bq hbq hbqf;try refine zU ?_)|(refine MS.nil ?_;intro nq hnq hltq;have hlq:=hltq _ _ (Hp.get_eq _ _ _);clear hltq;try refine zU ?_)|(refine LS.nilQ ?_;try with_reducible intro nq hnq;try refine zU ?_))
    exact ⟨_, H, rfl, by exact zD, by rw [tb_true (show isVec p n' v from fun j hj => hJ j (by omega))], rfl⟩
/-- spec.l01Basis -/
def ir31 : Cd := (.seq (.reg [⟨some 2,none,.new 27 [(8,(.int .u8 0))]⟩]) (.seq (.reg [⟨some 4,none,.build 8 [(8,(.int .u8 0))] []⟩,⟨some 3,none,.new 27 [(8,(.int .u8 0))]⟩,⟨none,none,.st 8 (.t 3) (.t 4)⟩]) (.seq (.reg [⟨some 5,none,.mov (.t 0)⟩,⟨some 6,none,.ia 8 1 (.t 3) (.t 5)⟩,⟨none,none,.st 1 (.t 6) (.c (.int .u8 1))⟩]) (.seq (.reg [⟨some 7,none,.ld (some 8) (.t 3)⟩,⟨none,none,.st 8 (.t 2) (.t 7)⟩]) .ret))))
set_option maxRecDepth 100000 in
theorem tr31 : trFn Tryz.prog Tryz.f31 = some (8, ir31, [.cell (some 8) 2]) := by kernel_rfl
theorem spec_l01Basis (i : Nat) (H : Hp) (n : Nat) (hi : i < 8) :
    FnS Tryz.prog 31 [i64 i] H n (fun r H' _ => r = .arr 8 (bys (bas i)) ∧ H' = H) := by
  refine FnS.of_body Tryz.func31 tr31 (by simp) (fun hf => ?_)
  dsimp only [argEnv]
  unfold ir31
  (repeat first|refine zG ?_|(refine LS.nilO ?_;intro nq hnq hltq;try refine zU ?_)|(refine MS.new ?_;intro bq hbq hbqf;try refine zU ?_)|(refine MS.nil ?_;intro nq hnq hltq;have hlq:=hltq _ _ (Hp.get_eq _ _ _);clear hltq;try refine zU ?_)|(refine LS.nilQ ?_;try with_reducible intro nq hnq;try refine zU ?_))
  exact ⟨.arr 8 (bys (bas i)), H, conc_arr (fun q hq => by simp only [Nat.zero_add, put1, bys, bas]; split <;> rfl), by exact zD, rfl, rfl⟩
/-- (impl.field).dot -/
def ir139 : Cd := (.seq (.reg [⟨some 3,none,.box 85 (.t 0)⟩,⟨some 4,none,.box 27 (.t 1)⟩,⟨some 5,none,.box 27 (.t 2)⟩,⟨some 6,none,.mov (.c (.int .i64 0))⟩]) (.seq (.reg [⟨some 7,none,.mov (.c (.int .i64 0))⟩]) (.seq (.seq (.reg [⟨some 10,none,.ld (some 8) (.t 4)⟩,⟨some 11,none,.mov (.c (.int .i64 0))⟩]) (.block 0 (.loop (.seq (.reg [⟨some 12,none,.bin .lss (.t 11) (.c (.int .i64 8))⟩]) (.seq (.cond (.t 12) .skip (.exit 0)) (.seq (.block 1 (.seq (.reg [⟨some 13,none,.mov (.t 11)⟩,⟨some 14,none,.ix 8 1 none (.t 10) (.t 11)⟩,⟨some 8,none,.mov (.t 13)⟩,⟨some 9,none,.mov (.t 14)⟩]) (.reg [⟨some 15,none,.mov (.t 7)⟩,⟨some 16,none,.mov (.t 9)⟩,⟨some 17,none,.cv .i64 (.t 16)⟩,⟨some 18,none,.mov (.t 8)⟩,⟨some 19,none,.ia 8 1 (.t 5) (.t 18)⟩,⟨some 20,none,.ld none (.t 19)⟩,⟨some 21,none,.cv .i64 (.t 20)⟩,⟨some 22,none,.bin .mul (.t 17) (.t 21)⟩,⟨some 23,none,.bin .add (.t 15) (.t 22)⟩,⟨some 7,none,.mov (.t 23)⟩]))) (.reg [⟨some 24,none,.bin .add (.t 11) (.c (.int .i64 1))⟩,⟨some 11,none,.mov (.t 24)⟩]))))))) (.seq (.reg [⟨some 25,none,.mov (.t 7)⟩,⟨some 26,none,.fa 0 (.t 3)⟩,⟨some 27,none,.ld none (.t 26)⟩,⟨some 28,none,.bin .rem (.t 25) (.t 27)⟩,⟨some 6,none,.mov (.t 28)⟩]) .ret))))
set_option maxRecDepth 100000 in
theorem tr139 : trFn Tryz.prog Tryz.f139 = some (29, ir139, [.tmp 6]) := by kernel_rfl
theorem field_dot (p n' : Int) (v w : Nat → Int) (H : Hp) (n : Nat) (hp : 2 ≤ p ∧ p ≤ 31) (hv : isBy 8 v) (hw : isBy 8 w) :
    FnS Tryz.prog 139 [fld p n', .arr 8 (bys v), .arr 8 (bys w)] H n (fun r H' _ => r = i64 (dotk p v w 8) ∧ H' = H) := by
  refine FnS.of_body Tryz.func139 tr139 (by simp) (fun hf => ?_)
  dsimp only [argEnv]
  unfold ir139
  (repeat first|refine zG ?_|(refine LS.nilO ?_;intro nq hnq hltq;try refine zU ?_)|(refine MS.new ?_;intro bq hbq hbqf;try refine zU ?_)|(refine MS.nil ?_;intro nq hnq hltq;have hlq:=hltq _ _ (Hp.get_eq _ _ _);clear hltq;try refine zU ?_)|(refine LS.nilQ ?_;try with_reducible intro nq hnq;try refine zU ?_))
  refine CS.iter 8 (fun i => [(11, i64 i), (7, i64 (sm (fun i => v i * w i) i)), (10, .arr 8 (bys v)), (5, ptr (n + 2) 0), (3, ptr n 0)])
    (fun i => (n + 2, ⟨8, bys w, 27⟩) :: (n + 1, ⟨8, bys v, 27⟩) :: (n, ⟨2, fldC p n', 85⟩) :: H) (fun _ => True) (by (repeat first | exact trivial | refine And.intro rfl ?_)) (Drops.keepc rfl rfl (fun _ _ => rfl) (Drops.keepc rfl rfl (fun _ _ => rfl) (Drops.refl _ _))) trivial ?_
  intro i n1 hi hn _
  have hs := sm_b (f := fun i => v i * w i) (B := 65025) (n := i) (fun q hq => by
    have h1 := hv q (by omega)
    have h2 := hw q (by omega)
    exact mulB h1.1 h1.2 h2.1 h2.2)
  (repeat first|refine zG ?_|(refine LS.nilO ?_;intro nq hnq hltq;try refine zU ?_)|(refine MS.new ?_;intro bq hbq hbqf;try refine zU ?_)|(refine MS.nil ?_;intro nq hnq hltq;have hlq:=hltq _ _ (Hp.get_eq _ _ _);clear hltq;try refine zU ?_)|(refine LS.nilQ ?_;try with_reducible intro nq hnq;try refine zU ?_))
  refine zI ?_ ?_<;>intro h1
  · have hvi := hv i (by omega)
    have hwi := hw i (by omega)
    have hvw := mulB hvi.1 hvi.2 hwi.1 hwi.2
    (repeat first|refine zG ?_|(refine LS.nilO ?_;intro nq hnq hltq;try refine zU ?_)|(refine MS.new ?_;intro bq hbq hbqf;try refine zU ?_)|(refine MS.nil ?_;intro nq hnq hltq;have hlq:=hltq _ _ (Hp.get_eq _ _ _);clear hltq;try refine zU ?_)|(refine LS.nilQ ?_;try with_reducible intro nq hnq;try refine zU ?_))
    exact ⟨by omega, by (repeat first | exact trivial | refine And.intro rfl ?_), Drops.refl _ _, trivial⟩
  · have : i = 8 := by omega
    subst this
    (repeat first|refine zG ?_|(refine LS.nilO ?_;intro nq hnq hltq;try refine zU ?_)|(refine MS.new ?_;intro bq hbq hbqf;try refine zU ?_)|(refine MS.nil ?_;intro nq hnq hltq;have hlq:=hltq _ _ (Hp.get_eq _ _ _);clear hltq;try refine zU ?_)|(refine LS.nilQ ?_;try with_reducible intro nq hnq;try refine zU ?_))
    exact ⟨i64 (dotk p v w 8), H, rfl, by exact zD, rfl, rfl⟩
/-- (*impl.Coalgebra).field -/
def ir138 : Cd := (.seq (.reg [⟨some 2,none,.new 85 [(2,(.int .i64 0))]⟩]) (.seq (.drw true [9] [⟨some 3,none,.mov (.t 0)⟩,⟨some 4,none,.ck (.t 3)⟩,⟨some 5,none,.fa 0 (.t 4)⟩,⟨some 6,none,.ld none (.t 5)⟩,⟨some 7,none,.mov (.t 0)⟩,⟨some 8,none,.ck (.t 7)⟩,⟨some 9,none,.fa 1 (.t 8)⟩,⟨some 10,none,.ld none (.t 9)⟩,⟨some 11,none,.build 2 [(2,(.int .i64 0))] [(0,1,(.t 6)),(1,1,(.t 10))]⟩,⟨none,none,.st 2 (.t 2) (.t 11)⟩]) .ret))
set_option maxRecDepth 100000 in
theorem tr138 : trFn Tryz.prog Tryz.f138 = some (12, ir138, [.cell (some 2) 2]) := by kernel_rfl
theorem Coalgebra_field (p n' : Int) (b : Nat) (K : Blk) (H : Hp) (n : Nat) (hb : H.get b = some K) (hsz : K.size = 522) (h0 : K.c 0 = .int .i64 p) (h1 : K.c 1 = .int .i64 n')
    (hr : -9223372036854775808 ≤ p ∧ p ≤ 9223372036854775807 ∧ -9223372036854775808 ≤ n' ∧ n' ≤ 9223372036854775807) :
    FnS Tryz.prog 138 [ptr b 0] H n (fun r H' _ => r = fld p n' ∧ H' = H) := by
  refine FnS.of_body Tryz.func138 tr138 (by simp) (fun hf => ?_)
  dsimp only [argEnv]
  unfold ir138
  have hbn := getlt hf hb
  (repeat first|refine zG ?_|(refine LS.nilO ?_;intro nq hnq hltq;try refine zU ?_)|(refine MS.new ?_;intro bq hbq hbqf;try refine zU ?_)|(refine MS.nil ?_;intro nq hnq hltq;have hlq:=hltq _ _ (Hp.get_eq _ _ _);clear hltq;try refine zU ?_)|(refine LS.nilQ ?_;try with_reducible intro nq hnq;try refine zU ?_))
  exact ⟨fld p n', _, conc_arr (fldC_of rfl rfl), by exact zD, rfl, rfl⟩
/-- spec.l03Algebra -/
def ir28 : Cd := (.seq (.reg [⟨some 1,none,.box 35 (.t 0)⟩,⟨some 2,none,.new 61 [(2,(.int .i64 0)),(520,(.int .u8 0))]⟩]) (.seq (.reg [⟨some 3,none,.fa 0 (.t 1)⟩,⟨some 4,none,.ld none (.t 3)⟩,⟨some 5,none,.fa 1 (.t 1)⟩,⟨some 6,none,.ld none (.t 5)⟩,⟨some 7,none,.fa 2 (.t 1)⟩,⟨some 8,none,.ld (some 8) (.t 7)⟩,⟨some 9,none,.fa 10 (.t 1)⟩,⟨some 10,none,.ld (some 512) (.t 9)⟩,⟨some 11,none,.build 522 [(2,(.int .i64 0)),(520,(.int .u8 0))] [(0,1,(.t 4)),(1,1,(.t 6)),(2,8,(.t 8)),(10,512,(.t 10))]⟩,⟨none,none,.st 522 (.t 2) (.t 11)⟩]) .ret))
set_option maxRecDepth 100000 in
theorem tr28 : trFn Tryz.prog Tryz.f28 = some (12, ir28, [.cell (some 522) 2]) := by kernel_rfl
theorem spec_l03Algebra (K : Nat → SV) (h : HT) (H : Hp) (n : Nat) (hK : h.At K) :
    FnS Tryz.prog 28 [.arr 1106 K] H n (fun r H' _ => r = .arr 522 K ∧ H' = H) := by
  obtain ⟨k0, k1, k2, k3, k4, k5, k6⟩ := hK
  refine FnS.of_body Tryz.func28 tr28 (by simp) (fun hf => ?_)
  dsimp only [argEnv]
  unfold ir28
  (repeat first|refine zG ?_|(refine LS.nilO ?_;intro nq hnq hltq;try refine zU ?_)|(refine MS.new ?_;intro bq hbq hbqf;try refine zU ?_)|(refine MS.nil ?_;intro nq hnq hltq;have hlq:=hltq _ _ (Hp.get_eq _ _ _);clear hltq;try refine zU ?_)|(refine LS.nilQ ?_;try with_reducible intro nq hnq;try refine zU ?_))
  refine ⟨.arr 522 K, H, conc_arr (fun q hq => ?_), by exact zD, rfl, rfl⟩
  simp only [Nat.zero_add, splice, put1]
  by_cases e0 : q < 2
  · rw [if_neg (by omega), if_neg (by omega)]
    by_cases e1 : q = 1
    · subst e1; rw [if_pos rfl]; exact k1.symm
    · have : q = 0 := by omega
      subst this; rw [if_neg (by omega), if_pos rfl]; exact k0.symm
  by_cases e1 : q < 10
  · rw [if_neg (by omega), if_pos (by omega)]
    have := k2 (q - 2) (by omega)
    rw [show 2 + (q - 2) = q by omega] at this
    rw [this]; rfl
  · rw [if_pos (by omega)]
    have := k3 (q - 10) (by omega)
    rw [show 10 + (q - 10) = q by omega] at this
    rw [this]; rfl
/-- spec.l03Coalgebra -/
def ir119 : Cd := (.seq (.reg [⟨some 1,none,.box 35 (.t 0)⟩,⟨some 2,none,.new 46 [(2,(.int .i64 0)),(520,(.int .u8 0))]⟩]) (.seq (.reg [⟨some 3,none,.fa 0 (.t 1)⟩,⟨some 4,none,.ld none (.t 3)⟩,⟨some 5,none,.fa 1 (.t 1)⟩,⟨some 6,none,.ld none (.t 5)⟩,⟨some 7,none,.fa 522 (.t 1)⟩,⟨some 8,none,.ld (some 8) (.t 7)⟩,⟨some 9,none,.fa 530 (.t 1)⟩,⟨some 10,none,.ld (some 512) (.t 9)⟩,⟨some 11,none,.build 522 [(2,(.int .i64 0)),(520,(.int .u8 0))] [(0,1,(.t 4)),(1,1,(.t 6)),(2,8,(.t 8)),(10,512,(.t 10))]⟩,⟨none,none,.st 522 (.t 2) (.t 11)⟩]) .ret))
set_option maxRecDepth 100000 in
theorem tr119 : trFn Tryz.prog Tryz.f119 = some (12, ir119, [.cell (some 522) 2]) := by kernel_rfl
theorem spec_l03Coalgebra (K : Nat → SV) (h : HT) (H : Hp) (n : Nat) (hK : h.At K) :
    FnS Tryz.prog 119 [.arr 1106 K] H n (fun r H' _ => r = .arr 522 (coC K) ∧ H' = H) := by
  have c4 := coC_e hK
  have c5 := coC_c hK
  obtain ⟨k0, k1, k2, k3, k4, k5, k6⟩ := hK
  refine FnS.of_body Tryz.func119 tr119 (by simp) (fun hf => ?_)
  dsimp only [argEnv]
  unfold ir119
  (repeat first|refine zG ?_|(refine LS.nilO ?_;intro nq hnq hltq;try refine zU ?_)|(refine MS.new ?_;intro bq hbq hbqf;try refine zU ?_)|(refine MS.nil ?_;intro nq hnq hltq;have hlq:=hltq _ _ (Hp.get_eq _ _ _);clear hltq;try refine zU ?_)|(refine LS.nilQ ?_;try with_reducible intro nq hnq;try refine zU ?_))
  refine ⟨.arr 522 (coC K), H, conc_arr (fun q hq => ?_), by exact zD, rfl, rfl⟩
  simp only [Nat.zero_add, splice, put1]
  by_cases e0 : q < 2
  · rw [if_neg (by omega), if_neg (by omega)]
    by_cases e1 : q = 1
    · subst e1; rw [if_pos rfl]; exact k1.symm
    · have : q = 0 := by omega
      subst this; rw [if_neg (by omega), if_pos rfl]; exact k0.symm
  by_cases e1 : q < 10
  · rw [if_neg (by omega), if_pos (by omega)]
    have := c4 (q - 2) (by omega)
    rw [show 2 + (q - 2) = q by omega] at this
    rw [this]; rfl
  · rw [if_pos (by omega)]
    have := c5 (q - 10) (by omega)
    rw [show 10 + (q - 10) = q by omega] at this
    rw [this]; rfl
end Go.Proofs.YtbknndbfbebkdabGreatR
