/- Contracts of the program's functions. -/
import Derived.Test.YtbknndbfbebkdabGreatRR
import Derived.Test.YtbknndbfbebkdabGreatRLW
import Derived.Test.YtbknndbfbebkdabGreatRF00
namespace Go.Proofs.YtbknndbfbebkdabGreatR
open Go.V
set_option linter.unusedSimpArgs false
set_option linter.unusedVariables false
set_option maxHeartbeats 4000000
/-- spec.l01In -/
def ir132 : Cd := (.seq (.reg [⟨some 6,none,.mov (.c (.bool false))⟩]) (.seq (.reg [⟨some 7,none,.mov (.t 0)⟩,⟨some 8,none,.mov (.t 1)⟩,⟨some 9,none,.bin .geq (.t 7) (.t 8)⟩,⟨some 10,none,.mov (.t 9)⟩,⟨some 11,(some (10,true)),.mov (.t 0)⟩,⟨some 12,(some (10,true)),.mov (.t 2)⟩,⟨some 13,(some (10,true)),.bin .leq (.t 11) (.t 12)⟩,⟨some 14,none,.pick (.t 10) (.t 13) (.c (.bool false))⟩,⟨some 6,none,.mov (.t 14)⟩]) .ret))
set_option maxRecDepth 100000 in
theorem tr132 : trFn Tryz.prog Tryz.f132 = some (15, ir132, [.tmp 6]) := by kernel_rfl
theorem spec_l01In (x a b : Int) (H : Hp) (n : Nat) :
    FnS Tryz.prog 132 [i64 x, i64 a, i64 b] H n (fun v H' _ => v = bl (decide (a ≤ x ∧ x ≤ b)) ∧ H' = H) := by
  refine FnS.of_body Tryz.func132 tr132 (by simp) (fun hf => ?_)
  dsimp only [argEnv]
  unfold ir132
  (repeat first|refine zG ?_|(refine LS.nilO ?_;intro nq hnq hltq;try refine zU ?_)|(refine MS.new ?_;intro bq hbq hbqf;try refine zU ?_)|(refine MS.nil ?_;intro nq hnq hltq;have hlq:=hltq _ _ (Hp.get_eq _ _ _);clear hltq;try refine zU ?_)|(refine LS.nilQ ?_;try with_reducible intro nq hnq;try refine zU ?_))
  refine RS.sp (t := 10) rfl (fun h => ?_) (fun h => ?_) <;> (try simp only [tb_eq, tb_eqF, decide_eq_true_eq, decide_eq_false_iff_not, beq_iff_eq, bne_iff_ne, ne_eq, Decidable.not_not, beq_eq_false_iff_ne, bne_eq_false_iff_eq, Bool.not_eq_true', Bool.not_eq_false', Bool.not_eq_eq_eq_not, Bool.not_true, Bool.not_false] at h)
  all_goals
    (repeat first|refine zG ?_|(refine LS.nilO ?_;intro nq hnq hltq;try refine zU ?_)|(refine MS.new ?_;intro bq hbq hbqf;try refine zU ?_)|(refine MS.nil ?_;intro nq hnq hltq;have hlq:=hltq _ _ (Hp.get_eq _ _ _);clear hltq;try refine zU ?_)|(refine LS.nilQ ?_;try with_reducible intro nq hnq;try refine zU ?_))
    exact ⟨_, H, rfl, by exact zD, by simp [h], rfl⟩
/-- impl.IsPrime -/
def ir114 : Cd := (.seq (.reg [⟨some 2,none,.mov (.c (.bool false))⟩]) (.seq (.seq (.reg [⟨some 4,none,.mov (.t 0)⟩,⟨some 5,none,.bin .lss (.t 4) (.c (.int .i64 2))⟩,⟨some 6,none,.mov (.t 5)⟩,⟨some 7,(some (6,false)),.mov (.t 0)⟩,⟨some 8,(some (6,false)),.bin .gtr (.t 7) (.c (.int .i64 31))⟩,⟨some 9,none,.pick (.t 6) (.c (.bool true)) (.t 8)⟩]) (.cond (.t 9) (.seq (.reg [⟨some 2,none,.mov (.c (.bool false))⟩]) .ret) .skip)) (.seq (.seq (.reg [⟨some 3,none,.mov (.c (.int .i64 2))⟩]) (.block 0 (.loop (.seq (.seq (.reg [⟨some 10,none,.mov (.t 3)⟩,⟨some 11,none,.mov (.t 3)⟩,⟨some 12,none,.bin .mul (.t 10) (.t 11)⟩,⟨some 13,none,.mov (.t 0)⟩,⟨some 14,none,.bin .leq (.t 12) (.t 13)⟩]) (.cond (.t 14) .skip (.exit 0))) (.seq (.block 1 (.seq (.reg [⟨some 17,none,.mov (.t 0)⟩,⟨some 18,none,.mov (.t 3)⟩,⟨some 19,none,.bin .rem (.t 17) (.t 18)⟩,⟨some 20,none,.bin .eql (.t 19) (.c (.int .i64 0))⟩]) (.cond (.t 20) (.seq (.reg [⟨some 2,none,.mov (.c (.bool false))⟩]) .ret) .skip))) (.reg [⟨some 15,none,.mov (.t 3)⟩,⟨some 16,none,.bin .add (.t 15) (.c (.int .i64 1))⟩,⟨some 3,none,.mov (.t 16)⟩])))))) (.seq (.reg [⟨some 2,none,.mov (.c (.bool true))⟩]) .ret))))
set_option maxRecDepth 100000 in
theorem tr114 : trFn Tryz.prog Tryz.f114 = some (21, ir114, [.tmp 2]) := by kernel_rfl
theorem impl_IsPrime (p : Int) (H : Hp) (n : Nat) :
    FnS Tryz.prog 114 [i64 p] H n (fun v H' _ => v = bl (isP p) ∧ H' = H) := by
  refine FnS.of_body Tryz.func114 tr114 (by simp) (fun hf => ?_)
  dsimp only [argEnv]
  unfold ir114
  (repeat first|refine zG ?_|(refine LS.nilO ?_;intro nq hnq hltq;try refine zU ?_)|(refine MS.new ?_;intro bq hbq hbqf;try refine zU ?_)|(refine MS.nil ?_;intro nq hnq hltq;have hlq:=hltq _ _ (Hp.get_eq _ _ _);clear hltq;try refine zU ?_)|(refine LS.nilQ ?_;try with_reducible intro nq hnq;try refine zU ?_))
  refine RS.sp (t := 6) rfl (fun h1 => ?_) (fun h1 => ?_) <;> (try simp only [tb_eq, tb_eqF, decide_eq_true_eq, decide_eq_false_iff_not, beq_iff_eq, bne_iff_ne, ne_eq, Decidable.not_not, beq_eq_false_iff_ne, bne_eq_false_iff_eq, Bool.not_eq_true', Bool.not_eq_false', Bool.not_eq_eq_eq_not, Bool.not_true, Bool.not_false] at h1)
  · (repeat first|refine zG ?_|(refine LS.nilO ?_;intro nq hnq hltq;try refine zU ?_)|(refine MS.new ?_;intro bq hbq hbqf;try refine zU ?_)|(refine MS.nil ?_;intro nq hnq hltq;have hlq:=hltq _ _ (Hp.get_eq _ _ _);clear hltq;try refine zU ?_)|(refine LS.nilQ ?_;try with_reducible intro nq hnq;try refine zU ?_))
    exact ⟨_, H, rfl, by exact zD, by rw [isP_out (.inl h1)], rfl⟩
  · (repeat first|refine zG ?_|(refine LS.nilO ?_;intro nq hnq hltq;try refine zU ?_)|(refine MS.new ?_;intro bq hbq hbqf;try refine zU ?_)|(refine MS.nil ?_;intro nq hnq hltq;have hlq:=hltq _ _ (Hp.get_eq _ _ _);clear hltq;try refine zU ?_)|(refine LS.nilQ ?_;try with_reducible intro nq hnq;try refine zU ?_))
    refine zI ?_ ?_<;>intro h2
    · skip
      (repeat first|refine zG ?_|(refine LS.nilO ?_;intro nq hnq hltq;try refine zU ?_)|(refine MS.new ?_;intro bq hbq hbqf;try refine zU ?_)|(refine MS.nil ?_;intro nq hnq hltq;have hlq:=hltq _ _ (Hp.get_eq _ _ _);clear hltq;try refine zU ?_)|(refine LS.nilQ ?_;try with_reducible intro nq hnq;try refine zU ?_))
      exact ⟨_, H, rfl, by exact zD, by rw [isP_out (.inr h2)], rfl⟩
    · skip
      (repeat first|refine zG ?_|(refine LS.nilO ?_;intro nq hnq hltq;try refine zU ?_)|(refine MS.new ?_;intro bq hbq hbqf;try refine zU ?_)|(refine MS.nil ?_;intro nq hnq hltq;have hlq:=hltq _ _ (Hp.get_eq _ _ _);clear hltq;try refine zU ?_)|(refine LS.nilQ ?_;try with_reducible intro nq hnq;try refine zU ?_))
      refine CS.iter 31 (fun i => [(3, i64 (i + 2 : Nat)), (0, i64 p)]) (fun _ => H) (fun i => i < 6 ∧ ∀ k : Nat, 2 ≤ k → k < i + 2 → p % k ≠ 0) ⟨rfl, rfl, trivial⟩ (Drops.refl _ _) ⟨by omega, fun k h1 h2 => by omega⟩ ?_
      intro i n1 hi hn ⟨hi6, hJ⟩
      have hsq : 0 ≤ ((i + 2 : Nat) : Int) * ((i + 2 : Nat) : Int) ∧ ((i + 2 : Nat) : Int) * ((i + 2 : Nat) : Int) ≤ 8 * 8 := mulB (by omega) (by omega) (by omega) (by omega)
      (repeat first|refine zG ?_|(refine LS.nilO ?_;intro nq hnq hltq;try refine zU ?_)|(refine MS.new ?_;intro bq hbq hbqf;try refine zU ?_)|(refine MS.nil ?_;intro nq hnq hltq;have hlq:=hltq _ _ (Hp.get_eq _ _ _);clear hltq;try refine zU ?_)|(refine LS.nilQ ?_;try with_reducible intro nq hnq;try refine zU ?_))
      refine zI ?_ ?_<;>intro h3
      · skip
        have hi4 : i + 2 < 6 := by
          rcases Nat.lt_or_ge (i + 2) 6 with h | h
          · exact h
          · have := mulB (a := 6) (b := 6) (A := ((i + 2 : Nat) : Int)) (B := ((i + 2 : Nat) : Int)) (by omega) (by omega) (by omega) (by omega)
            omega
        (repeat first|refine zG ?_|(refine LS.nilO ?_;intro nq hnq hltq;try refine zU ?_)|(refine MS.new ?_;intro bq hbq hbqf;try refine zU ?_)|(refine MS.nil ?_;intro nq hnq hltq;have hlq:=hltq _ _ (Hp.get_eq _ _ _);clear hltq;try refine zU ?_)|(refine LS.nilQ ?_;try with_reducible intro nq hnq;try refine zU ?_))
        refine zI ?_ ?_<;>intro h4
        · skip
          (repeat first|refine zG ?_|(refine LS.nilO ?_;intro nq hnq hltq;try refine zU ?_)|(refine MS.new ?_;intro bq hbq hbqf;try refine zU ?_)|(refine MS.nil ?_;intro nq hnq hltq;have hlq:=hltq _ _ (Hp.get_eq _ _ _);clear hltq;try refine zU ?_)|(refine LS.nilQ ?_;try with_reducible intro nq hnq;try refine zU ?_))
          exact ⟨_, H, rfl, by exact zD, by rw [isP_div (k := i + 2) (by omega) (by
            have : ((i + 2 : Nat) : Int) * 2 ≤ ((i + 2 : Nat) : Int) * ((i + 2 : Nat) : Int) := Int.mul_le_mul_of_nonneg_left (by omega) (by omega)
            omega) h4], rfl⟩
        · skip
          (repeat first|refine zG ?_|(refine LS.nilO ?_;intro nq hnq hltq;try refine zU ?_)|(refine MS.new ?_;intro bq hbq hbqf;try refine zU ?_)|(refine MS.nil ?_;intro nq hnq hltq;have hlq:=hltq _ _ (Hp.get_eq _ _ _);clear hltq;try refine zU ?_)|(refine LS.nilQ ?_;try with_reducible intro nq hnq;try refine zU ?_))
          refine ⟨by omega, by (repeat first | exact trivial | refine And.intro rfl ?_), by exact zD, by omega, fun k h5 h6 => ?_⟩
          by_cases h7 : k < i + 2
          · exact hJ k h5 h7
          · have : k = i + 2 := by omega
            subst this
            exact h4
      · skip
        (repeat first|refine zG ?_|(refine LS.nilO ?_;intro nq hnq hltq;try refine zU ?_)|(refine MS.new ?_;intro bq hbq hbqf;try refine zU ?_)|(refine MS.nil ?_;intro nq hnq hltq;have hlq:=hltq _ _ (Hp.get_eq _ _ _);clear hltq;try refine zU ?_)|(refine LS.nilQ ?_;try with_reducible intro nq hnq;try refine zU ?_))
        refine ⟨_, H, rfl, by exact zD, ?_, rfl⟩
        rw [isP_yes (by omega) (by omega) (fun k h5 h6 => hJ k h5 (by
          rcases Nat.lt_or_ge k (i + 2) with h | h
          · exact h
          · have h8 : (i + 2) * (i + 2) ≤ k * k := Nat.mul_le_mul h h
            have h9 : (((i + 2) * (i + 2) : Nat) : Int) ≤ ((k * k : Nat) : Int) := Int.ofNat_le.2 h8
            rw [Int.natCast_mul] at h9
            omega))]
/-- spec.l01Mod -/
def ir77 : Cd := (.seq (.reg [⟨some 4,none,.mov (.c (.int .u8 0))⟩]) (.seq (.reg [⟨some 5,none,.mov (.t 1)⟩,⟨some 6,none,.mov (.t 0)⟩,⟨some 7,none,.bin .rem (.t 5) (.t 6)⟩,⟨some 8,none,.mov (.t 0)⟩,⟨some 9,none,.bin .add (.t 7) (.t 8)⟩,⟨some 10,none,.mov (.t 0)⟩,⟨some 11,none,.bin .rem (.t 9) (.t 10)⟩,⟨some 12,none,.cv .u8 (.t 11)⟩,⟨some 4,none,.mov (.t 12)⟩]) .ret))
set_option maxRecDepth 100000 in
theorem tr77 : trFn Tryz.prog Tryz.f77 = some (13, ir77, [.tmp 4]) := by kernel_rfl
theorem spec_l01Mod (p x : Int) (H : Hp) (n : Nat) (hp : 2 ≤ p) (hp2 : p ≤ 31) (hx : -1000000000 ≤ x ∧ x ≤ 1000000000) :
    FnS Tryz.prog 77 [i64 p, i64 x] H n (fun v H' _ => v = u8 (x % p) ∧ H' = H) := by
  have h1 := Int.emod_nonneg x (show p ≠ 0 by omega)
  have h2 := Int.emod_lt_of_pos x (show (0 : Int) < p by omega)
  have ht : -p < x.tmod p ∧ x.tmod p < p ∧ (x.tmod p + p) % p = x % p := by
    obtain ⟨t1, t2, t3⟩ := tmod_facts x p hp
    by_cases hz : x % p = 0
    · rw [t1 hz, hz]; exact ⟨by omega, by omega, by simp⟩
    · by_cases h0 : 0 ≤ x
      · rw [t2 hz h0]; exact ⟨by omega, by omega, by simp⟩
      · rw [t3 hz (by omega)]; exact ⟨by omega, by omega, by rw [Int.sub_add_cancel]; simp⟩
  refine FnS.of_body Tryz.func77 tr77 (by simp) (fun hf => ?_)
  dsimp only [argEnv]
  unfold ir77
  (repeat first|refine zG ?_|(refine LS.nilO ?_;intro nq hnq hltq;try refine zU ?_)|(refine MS.new ?_;intro bq hbq hbqf;try refine zU ?_)|(refine MS.nil ?_;intro nq hnq hltq;have hlq:=hltq _ _ (Hp.get_eq _ _ _);clear hltq;try refine zU ?_)|(refine LS.nilQ ?_;try with_reducible intro nq hnq;try refine zU ?_))
  refine RS.remt rfl rfl (by omega) ?_
  (repeat first|refine zG ?_|(refine LS.nilO ?_;intro nq hnq hltq;try refine zU ?_)|(refine MS.new ?_;intro bq hbq hbqf;try refine zU ?_)|(refine MS.nil ?_;intro nq hnq hltq;have hlq:=hltq _ _ (Hp.get_eq _ _ _);clear hltq;try refine zU ?_)|(refine LS.nilQ ?_;try with_reducible intro nq hnq;try refine zU ?_))
  exact ⟨u8 (x % p), H, by rw [← ht.2.2], by exact zD, rfl, rfl⟩
/-- (*impl.Hopf).algebra -/
def ir100 : Cd := (.seq (.reg [⟨some 2,none,.mov (.c .nil)⟩]) (.seq (.drw true [17] [⟨some 3,none,.mov (.t 0)⟩,⟨some 4,none,.ck (.t 3)⟩,⟨some 5,none,.fa 0 (.t 4)⟩,⟨some 6,none,.ld none (.t 5)⟩,⟨some 7,none,.mov (.t 0)⟩,⟨some 8,none,.ck (.t 7)⟩,⟨some 9,none,.fa 1 (.t 8)⟩,⟨some 10,none,.ld none (.t 9)⟩,⟨some 11,none,.mov (.t 0)⟩,⟨some 12,none,.ck (.t 11)⟩,⟨some 13,none,.fa 2 (.t 12)⟩,⟨some 14,none,.ld (some 8) (.t 13)⟩,⟨some 15,none,.mov (.t 0)⟩,⟨some 16,none,.ck (.t 15)⟩,⟨some 17,none,.fa 10 (.t 16)⟩,⟨some 18,none,.ld (some 512) (.t 17)⟩,⟨some 19,none,.build 522 [(2,(.int .i64 0)),(520,(.int .u8 0))] [(0,1,(.t 6)),(1,1,(.t 10)),(2,8,(.t 14)),(10,512,(.t 18))]⟩,⟨some 20,none,.box 61 (.t 19)⟩,⟨some 2,none,.mov (.t 20)⟩]) .ret))
set_option maxRecDepth 100000 in
theorem tr100 : trFn Tryz.prog Tryz.f100 = some (21, ir100, [.tmp 2]) := by kernel_rfl
theorem Hopf_algebra (h : HT) (b : Nat) (K : Blk) (H : Hp) (n : Nat) (hb : H.get b = some K) (hsz : K.size = 1106) (hK : h.At K.c) :
    FnS Tryz.prog 100 [ptr b 0] H n (newAlg 61 h.p h.n h.u h.m n H) := by
  obtain ⟨k0, k1, k2, k3, k4, k5, k6⟩ := hK
  refine FnS.of_body Tryz.func100 tr100 (by simp) (fun hf => ?_)
  dsimp only [argEnv]
  unfold ir100
  have hbn := getlt hf hb
  (repeat first|refine zG ?_|(refine LS.nilO ?_;intro nq hnq hltq;try refine zU ?_)|(refine MS.new ?_;intro bq hbq hbqf;try refine zU ?_)|(refine MS.nil ?_;intro nq hnq hltq;have hlq:=hltq _ _ (Hp.get_eq _ _ _);clear hltq;try refine zU ?_)|(refine LS.nilQ ?_;try with_reducible intro nq hnq;try refine zU ?_))
  refine ⟨ptr nq 0, _, rfl, Drops.refl _ _, nq, _, rfl, hnq, by omega, rfl, ?_, ?_, fun q hq => ?_, fun q hq => ?_⟩
  · simp [splice, put1]
  · simp [splice, put1]
  · simp only [splice]
    rw [if_neg (by omega), if_pos (by omega), Nat.add_sub_cancel_left]
    rfl
  · simp only [splice]
    rw [if_pos (by omega), Nat.add_sub_cancel_left]
    rfl
/-- (*impl.Hopf).field -/
def ir49 : Cd := (.seq (.reg [⟨some 2,none,.new 85 [(2,(.int .i64 0))]⟩]) (.seq (.drw true [9] [⟨some 3,none,.mov (.t 0)⟩,⟨some 4,none,.ck (.t 3)⟩,⟨some 5,none,.fa 0 (.t 4)⟩,⟨some 6,none,.ld none (.t 5)⟩,⟨some 7,none,.mov (.t 0)⟩,⟨some 8,none,.ck (.t 7)⟩,⟨some 9,none,.fa 1 (.t 8)⟩,⟨some 10,none,.ld none (.t 9)⟩,⟨some 11,none,.build 2 [(2,(.int .i64 0))] [(0,1,(.t 6)),(1,1,(.t 10))]⟩,⟨none,none,.st 2 (.t 2) (.t 11)⟩]) .ret))
set_option maxRecDepth 100000 in
theorem tr49 : trFn Tryz.prog Tryz.f49 = some (12, ir49, [.cell (some 2) 2]) := by kernel_rfl
theorem Hopf_field (p n' : Int) (b : Nat) (K : Blk) (H : Hp) (n : Nat) (hb : H.get b = some K) (hsz : K.size = 1106) (h0 : K.c 0 = .int .i64 p) (h1 : K.c 1 = .int .i64 n')
    (hr : -9223372036854775808 ≤ p ∧ p ≤ 9223372036854775807 ∧ -9223372036854775808 ≤ n' ∧ n' ≤ 9223372036854775807) :
    FnS Tryz.prog 49 [ptr b 0] H n (fun r H' _ => r = fld p n' ∧ H' = H) := by
  refine FnS.of_body Tryz.func49 tr49 (by simp) (fun hf => ?_)
  dsimp only [argEnv]
  unfold ir49
  have hbn := getlt hf hb
  (repeat first|refine zG ?_|(refine LS.nilO ?_;intro nq hnq hltq;try refine zU ?_)|(refine MS.new ?_;intro bq hbq hbqf;try refine zU ?_)|(refine MS.nil ?_;intro nq hnq hltq;have hlq:=hltq _ _ (Hp.get_eq _ _ _);clear hltq;try refine zU ?_)|(refine LS.nilQ ?_;try with_reducible intro nq hnq;try refine zU ?_))
  exact ⟨fld p n', _, conc_arr (fldC_of rfl rfl), by exact zD, rfl, rfl⟩
/-- spec.l03Algebra -/
def ir28 : Cd := (.seq (.reg [⟨some 1,none,.box 35 (.t 0)⟩,⟨some 2,none,.new 61 [(2,(.int .i64 0)),(520,(.int .u8 0))]⟩]) (.seq (.reg [⟨some 3,none,.fa 0 (.t 1)⟩,⟨some 4,none,.ld none (.t 3)⟩,⟨some 5,none,.fa 1 (.t 1)⟩,⟨some 6,none,.ld none (.t 5)⟩,⟨some 7,none,.fa 2 (.t 1)⟩,⟨some 8,none,.ld (some 8) (.t 7)⟩,⟨some 9,none,.fa 10 (.t 1)⟩,⟨some 10,none,.ld (some 512) (.t 9)⟩,⟨some 11,none,.build 522 [(2,(.int .i64 0)),(520,(.int .u8 0))] [(0,1,(.t 4)),(1,1,(.t 6)),(2,8,(.t 8)),(10,512,(.t 10))]⟩,⟨none,none,.st 522 (.t 2) (.t 11)⟩]) .ret))
set_option maxRecDepth 100000 in
theorem tr28 : trFn Tryz.prog Tryz.f28 = some (12, ir28, [.cell (some 522) 2]) := by kernel_rfl
theorem spec_l03Algebra (K : Nat → SV) (h : HT) (H : Hp) (n : Nat) (hK : h.At K) :
    FnS Tryz.prog 28 [.arr 1106 K] H n (fun r H' _ => r = .arr 522 K ∧ H' = H) := by
  obtain ⟨k0, k1, k2, k3, k4, k5, k6⟩ := hK
  refine FnS.of_body Tryz.func28 tr28 (by simp) (fun hf => ?_)
  dsimp only [argEnv]
  unfold ir28
  (repeat first|refine zG ?_|(refine LS.nilO ?_;intro nq hnq hltq;try refine zU ?_)|(refine MS.new ?_;intro bq hbq hbqf;try refine zU ?_)|(refine MS.nil ?_;intro nq hnq hltq;have hlq:=hltq _ _ (Hp.get_eq _ _ _);clear hltq;try refine zU ?_)|(refine LS.nilQ ?_;try with_reducible intro nq hnq;try refine zU ?_))
  refine ⟨.arr 522 K, H, conc_arr (fun q hq => ?_), by exact zD, rfl, rfl⟩
  simp only [Nat.zero_add, splice, put1]
  by_cases e0 : q < 2
  · rw [if_neg (by omega), if_neg (by omega)]
    by_cases e1 : q = 1
    · subst e1; rw [if_pos rfl]; exact k1.symm
    · have : q = 0 := by omega
      subst this; rw [if_neg (by omega), if_pos rfl]; exact k0.symm
  by_cases e1 : q < 10
  · rw [if_neg (by omega), if_pos (by omega)]
    have := k2 (q - 2) (by omega)
    rw [show 2 + (q - 2) = q by omega] at this
    rw [this]; rfl
  · rw [if_pos (by omega)]
    have := k3 (q - 10) (by omega)
    rw [show 10 + (q - 10) = q by omega] at this
    rw [this]; rfl
/-- spec.l01Zero -/
def ir54 : Cd := (.seq (.reg [⟨some 1,none,.box 27 (.t 0)⟩,⟨some 2,none,.mov (.c (.bool false))⟩]) (.seq (.reg [⟨some 3,none,.ld (some 8) (.t 1)⟩,⟨some 4,none,.build 8 [(8,(.int .u8 0))] []⟩,⟨some 5,none,.eqa false 8 (.t 3) (.t 4)⟩,⟨some 2,none,.mov (.t 5)⟩]) .ret))
set_option maxRecDepth 100000 in
theorem tr54 : trFn Tryz.prog Tryz.f54 = some (6, ir54, [.tmp 2]) := by kernel_rfl
theorem spec_l01Zero (v : Nat → Int) (H : Hp) (n : Nat) :
    FnS Tryz.prog 54 [.arr 8 (bys v)] H n (fun r H' _ => r = bl (tb (∀ q, q < 8 → v q = 0)) ∧ H' = H) := by
  refine FnS.of_body Tryz.func54 tr54 (by simp) (fun hf => ?_)
  dsimp only [argEnv]
  unfold ir54
  (repeat first|refine zG ?_|(refine LS.nilO ?_;intro nq hnq hltq;try refine zU ?_)|(refine MS.new ?_;intro bq hbq hbqf;try refine zU ?_)|(refine MS.nil ?_;intro nq hnq hltq;have hlq:=hltq _ _ (Hp.get_eq _ _ _);clear hltq;try refine zU ?_)|(refine LS.nilQ ?_;try with_reducible intro nq hnq;try refine zU ?_))
  exact ⟨_, H, rfl, by exact zD, rfl, rfl⟩
/-- impl.unless -/
def ir40 : Cd := (.seq (.reg [⟨some 4,none,.mov (.c (.int .i64 0))⟩]) (.seq (.seq (.reg [⟨some 5,none,.mov (.t 0)⟩]) (.cond (.t 5) (.seq (.reg [⟨some 4,none,.mov (.c (.int .i64 0))⟩]) .ret) .skip)) (.seq (.reg [⟨some 6,none,.mov (.t 1)⟩,⟨some 4,none,.mov (.t 6)⟩]) .ret)))
set_option maxRecDepth 100000 in
theorem tr40 : trFn Tryz.prog Tryz.f40 = some (7, ir40, [.tmp 4]) := by kernel_rfl
theorem impl_unless (Q : Prop) (H : Hp) (n : Nat) :
    FnS Tryz.prog 40 [bl (tb Q), i64 1] H n (fun r H' _ => r = i64 (cd Q) ∧ H' = H) := by
  refine FnS.of_body Tryz.func40 tr40 (by simp) (fun hf => ?_)
  dsimp only [argEnv]
  unfold ir40
  (repeat first|refine zG ?_|(refine LS.nilO ?_;intro nq hnq hltq;try refine zU ?_)|(refine MS.new ?_;intro bq hbq hbqf;try refine zU ?_)|(refine MS.nil ?_;intro nq hnq hltq;have hlq:=hltq _ _ (Hp.get_eq _ _ _);clear hltq;try refine zU ?_)|(refine LS.nilQ ?_;try with_reducible intro nq hnq;try refine zU ?_))
  refine zI ?_ ?_<;>intro h1
  · (repeat first|refine zG ?_|(refine LS.nilO ?_;intro nq hnq hltq;try refine zU ?_)|(refine MS.new ?_;intro bq hbq hbqf;try refine zU ?_)|(refine MS.nil ?_;intro nq hnq hltq;have hlq:=hltq _ _ (Hp.get_eq _ _ _);clear hltq;try refine zU ?_)|(refine LS.nilQ ?_;try with_reducible intro nq hnq;try refine zU ?_))
    exact ⟨_, H, rfl, by exact zD, by rw [cd_true h1], rfl⟩
  · (repeat first|refine zG ?_|(refine LS.nilO ?_;intro nq hnq hltq;try refine zU ?_)|(refine MS.new ?_;intro bq hbq hbqf;try refine zU ?_)|(refine MS.nil ?_;intro nq hnq hltq;have hlq:=hltq _ _ (Hp.get_eq _ _ _);clear hltq;try refine zU ?_)|(refine LS.nilQ ?_;try with_reducible intro nq hnq;try refine zU ?_))
    exact ⟨_, H, rfl, by exact zD, by rw [cd_false h1], rfl⟩
/-- spec.l09Flip -/
def ir71 : Cd := (.seq (.reg [⟨some 3,none,.box 29 (.t 1)⟩,⟨some 4,none,.new 29 [(64,(.int .u8 0))]⟩]) (.seq (.reg [⟨some 8,none,.build 64 [(64,(.int .u8 0))] []⟩,⟨some 5,none,.new 29 [(64,(.int .u8 0))]⟩,⟨none,none,.st 64 (.t 5) (.t 8)⟩]) (.seq (.seq (.reg [⟨some 6,none,.mov (.c (.int .i64 0))⟩]) (.block 0 (.loop (.seq (.seq (.reg [⟨some 9,none,.mov (.t 6)⟩,⟨some 10,none,.mov (.t 0)⟩,⟨some 11,none,.bin .lss (.t 9) (.t 10)⟩]) (.cond (.t 11) .skip (.exit 0))) (.seq (.block 1 (.seq (.reg [⟨some 7,none,.mov (.c (.int .i64 0))⟩]) (.block 2 (.loop (.seq (.seq (.reg [⟨some 14,none,.mov (.t 7)⟩,⟨some 15,none,.mov (.t 0)⟩,⟨some 16,none,.bin .lss (.t 14) (.t 15)⟩]) (.cond (.t 16) .skip (.exit 2))) (.seq (.block 3 (.drw true [9] [⟨some 19,none,.mov (.t 6)⟩,⟨some 20,none,.mov (.t 7)⟩,⟨some 21,none,.mov (.t 7)⟩,⟨some 22,none,.mov (.t 6)⟩,⟨some 23,none,.ia 8 8 (.t 3) (.t 21)⟩,⟨some 24,none,.ia 8 1 (.t 23) (.t 22)⟩,⟨some 25,none,.ld none (.t 24)⟩,⟨some 26,none,.ia 8 8 (.t 5) (.t 19)⟩,⟨some 27,none,.ia 8 1 (.t 26) (.t 20)⟩,⟨none,none,.st 1 (.t 27) (.t 25)⟩])) (.reg [⟨some 17,none,.mov (.t 7)⟩,⟨some 18,none,.bin .add (.t 17) (.c (.int .i64 1))⟩,⟨some 7,none,.mov (.t 18)⟩]))))))) (.reg [⟨some 12,none,.mov (.t 6)⟩,⟨some 13,none,.bin .add (.t 12) (.c (.int .i64 1))⟩,⟨some 6,none,.mov (.t 13)⟩])))))) (.seq (.reg [⟨some 28,none,.ld (some 64) (.t 5)⟩,⟨none,none,.st 64 (.t 4) (.t 28)⟩]) .ret))))
set_option maxRecDepth 100000 in
theorem tr71 : trFn Tryz.prog Tryz.f71 = some (29, ir71, [.cell (some 64) 4]) := by kernel_rfl
theorem spec_l09Flip (a : Nat) (s : Nat → Int) (H : Hp) (n : Nat) (ha : a ≤ 8) (hz : lz a s) :
    FnS Tryz.prog 71 [i64 a, .arr 64 (bys s)] H n (fun r H' _ => r = .arr 64 (bys (trn s)) ∧ H' = H) := by
  refine FnS.of_body Tryz.func71 tr71 (by simp) (fun hf => ?_)
  dsimp only [argEnv]
  unfold ir71
  (repeat first|refine zG ?_|(refine LS.nilO ?_;intro nq hnq hltq;try refine zU ?_)|(refine MS.new ?_;intro bq hbq hbqf;try refine zU ?_)|(refine MS.nil ?_;intro nq hnq hltq;have hlq:=hltq _ _ (Hp.get_eq _ _ _);clear hltq;try refine zU ?_)|(refine LS.nilQ ?_;try with_reducible intro nq hnq;try refine zU ?_))
  refine CS.iter a (fun i => [(6, i64 i), (0, i64 a), (3, ptr n 0), (4, ptr (n + 1) 0), (5, ptr (n + 2) 0)])
    (fun i => (n + 2, ⟨64, bys (cellsTo (trn s) (8 * i)), 29⟩) :: (n + 1, ⟨64, bys (fun _ => 0), 29⟩) :: (n, ⟨64, bys s, 29⟩) :: H) (fun _ => True) (by (repeat first | exact trivial | refine And.intro rfl ?_))
    (Drops.keepc rfl rfl (fun _ _ => by rw [show cellsTo (trn s) (8 * 0) = fun _ => 0 from cellsTo_zero _]; rfl) (Drops.keepc rfl rfl (fun _ _ => rfl) (Drops.refl _ _))) trivial ?_
  intro i n1 hi hn _
  (repeat first|refine zG ?_|(refine LS.nilO ?_;intro nq hnq hltq;try refine zU ?_)|(refine MS.new ?_;intro bq hbq hbqf;try refine zU ?_)|(refine MS.nil ?_;intro nq hnq hltq;have hlq:=hltq _ _ (Hp.get_eq _ _ _);clear hltq;try refine zU ?_)|(refine LS.nilQ ?_;try with_reducible intro nq hnq;try refine zU ?_))
  refine zI ?_ ?_<;>intro h1
  · (repeat first|refine zG ?_|(refine LS.nilO ?_;intro nq hnq hltq;try refine zU ?_)|(refine MS.new ?_;intro bq hbq hbqf;try refine zU ?_)|(refine MS.nil ?_;intro nq hnq hltq;have hlq:=hltq _ _ (Hp.get_eq _ _ _);clear hltq;try refine zU ?_)|(refine LS.nilQ ?_;try with_reducible intro nq hnq;try refine zU ?_))
    refine CS.iter a (fun j => [(7, i64 j), (6, i64 i), (0, i64 a), (3, ptr n 0), (4, ptr (n + 1) 0), (5, ptr (n + 2) 0)])
      (fun j => (n + 2, ⟨64, bys (cellsTo (trn s) (8 * i + j)), 29⟩) :: (n + 1, ⟨64, bys (fun _ => 0), 29⟩) :: (n, ⟨64, bys s, 29⟩) :: H) (fun _ => True) (by (repeat first | exact trivial | refine And.intro rfl ?_)) (Drops.refl _ _) trivial ?_
    intro j n2 hj hn2 _
    (repeat first|refine zG ?_|(refine LS.nilO ?_;intro nq hnq hltq;try refine zU ?_)|(refine MS.new ?_;intro bq hbq hbqf;try refine zU ?_)|(refine MS.nil ?_;intro nq hnq hltq;have hlq:=hltq _ _ (Hp.get_eq _ _ _);clear hltq;try refine zU ?_)|(refine LS.nilQ ?_;try with_reducible intro nq hnq;try refine zU ?_))
    refine zI ?_ ?_<;>intro h2
    · have he : s (8 * j + i) = trn s (8 * i + j) := by unfold trn; rw [show (8 * i + j) % 8 = j by omega, show (8 * i + j) / 8 = i by omega]
      (repeat first|refine zG ?_|(refine LS.nilO ?_;intro nq hnq hltq;try refine zU ?_)|(refine MS.new ?_;intro bq hbq hbqf;try refine zU ?_)|(refine MS.nil ?_;intro nq hnq hltq;have hlq:=hltq _ _ (Hp.get_eq _ _ _);clear hltq;try refine zU ?_)|(refine LS.nilQ ?_;try with_reducible intro nq hnq;try refine zU ?_))
      exact ⟨by omega, by (repeat first | exact trivial | refine And.intro rfl ?_), Drops.keepc rfl rfl (fun q hq => by have := cellsTo_step (trn s) (8 * i + j) q; rw [← he] at this; exact this) (Drops.refl _ _), trivial⟩
    · have : j = a := by omega
      subst this
      (repeat first|refine zG ?_|(refine LS.nilO ?_;intro nq hnq hltq;try refine zU ?_)|(refine MS.new ?_;intro bq hbq hbqf;try refine zU ?_)|(refine MS.nil ?_;intro nq hnq hltq;have hlq:=hltq _ _ (Hp.get_eq _ _ _);clear hltq;try refine zU ?_)|(refine LS.nilQ ?_;try with_reducible intro nq hnq;try refine zU ?_))
      exact ⟨by omega, by (repeat first | exact trivial | refine And.intro rfl ?_), Drops.keepc rfl rfl (fun q hq => by rw [cellsTo_more (x := 8 * i + j) (y := 8 * (i + 1)) (by omega) (fun q h1 h2 => trn_zero hz (by omega) (by omega))]) (Drops.refl _ _), trivial⟩
  · have : i = a := by omega
    subst this
    (repeat first|refine zG ?_|(refine LS.nilO ?_;intro nq hnq hltq;try refine zU ?_)|(refine MS.new ?_;intro bq hbq hbqf;try refine zU ?_)|(refine MS.nil ?_;intro nq hnq hltq;have hlq:=hltq _ _ (Hp.get_eq _ _ _);clear hltq;try refine zU ?_)|(refine LS.nilQ ?_;try with_reducible intro nq hnq;try refine zU ?_))
    exact ⟨.arr 64 (bys (trn s)), H, conc_arr (fun q hq => by
      simp only [Nat.zero_add]
      rw [cellsTo_more (x := 8 * i) (y := 64) (by omega) (fun q h1 h2 => trn_zero hz h2 (by omega))]
      simp only [bys, cellsTo]
      rw [if_pos (by omega)]), by exact zD, rfl, rfl⟩
theorem impl_unlessB (b : Bool) (k : Int) (H : Hp) (n : Nat) :
    FnS Tryz.prog 40 [bl b, i64 k] H n (fun r H' _ => r = i64 (if b = true then 0 else k) ∧ H' = H) := by
  refine FnS.of_body Tryz.func40 tr40 (by simp) (fun hf => ?_)
  dsimp only [argEnv]
  unfold ir40
  cases b
  · (repeat first|refine zG ?_|(refine LS.nilO ?_;intro nq hnq hltq;try refine zU ?_)|(refine MS.new ?_;intro bq hbq hbqf;try refine zU ?_)|(refine MS.nil ?_;intro nq hnq hltq;have hlq:=hltq _ _ (Hp.get_eq _ _ _);clear hltq;try refine zU ?_)|(refine LS.nilQ ?_;try with_reducible intro nq hnq;try refine zU ?_))
    exact ⟨_, H, rfl, by exact zD, rfl, rfl⟩
  · (repeat first|refine zG ?_|(refine LS.nilO ?_;intro nq hnq hltq;try refine zU ?_)|(refine MS.new ?_;intro bq hbq hbqf;try refine zU ?_)|(refine MS.nil ?_;intro nq hnq hltq;have hlq:=hltq _ _ (Hp.get_eq _ _ _);clear hltq;try refine zU ?_)|(refine LS.nilQ ?_;try with_reducible intro nq hnq;try refine zU ?_))
    exact ⟨_, H, rfl, by exact zD, rfl, rfl⟩
end Go.Proofs.YtbknndbfbebkdabGreatR
