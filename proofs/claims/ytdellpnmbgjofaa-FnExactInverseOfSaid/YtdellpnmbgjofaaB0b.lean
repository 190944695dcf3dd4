/- Contracts of the program's functions. -/
import Derived.Test.YtdellpnmbgjofaaR
import Derived.Test.YtdellpnmbgjofaaB00
namespace Go.Proofs.Ytdellpnmbgjofaa
open Go.V
set_option linter.unusedSimpArgs false
set_option linter.unusedVariables false
set_option maxHeartbeats 4000000
/-- impl.IsPrime -/
def ir55 : Cd := (.seq (.reg [⟨some 2,none,.mov (.c (.bool false))⟩]) (.seq (.seq (.reg [⟨some 4,none,.mov (.t 0)⟩,⟨some 5,none,.bin .lss (.t 4) (.c (.int .i64 2))⟩,⟨some 6,none,.mov (.t 5)⟩,⟨some 7,(some (6,false)),.mov (.t 0)⟩,⟨some 8,(some (6,false)),.bin .gtr (.t 7) (.c (.int .i64 31))⟩,⟨some 9,none,.pick (.t 6) (.c (.bool true)) (.t 8)⟩]) (.cond (.t 9) (.seq (.reg [⟨some 2,none,.mov (.c (.bool false))⟩]) .ret) .skip)) (.seq (.seq (.reg [⟨some 3,none,.mov (.c (.int .i64 2))⟩]) (.block 0 (.loop (.seq (.seq (.reg [⟨some 10,none,.mov (.t 3)⟩,⟨some 11,none,.mov (.t 3)⟩,⟨some 12,none,.bin .mul (.t 10) (.t 11)⟩,⟨some 13,none,.mov (.t 0)⟩,⟨some 14,none,.bin .leq (.t 12) (.t 13)⟩]) (.cond (.t 14) .skip (.exit 0))) (.seq (.block 1 (.seq (.reg [⟨some 17,none,.mov (.t 0)⟩,⟨some 18,none,.mov (.t 3)⟩,⟨some 19,none,.bin .rem (.t 17) (.t 18)⟩,⟨some 20,none,.bin .eql (.t 19) (.c (.int .i64 0))⟩]) (.cond (.t 20) (.seq (.reg [⟨some 2,none,.mov (.c (.bool false))⟩]) .ret) .skip))) (.reg [⟨some 15,none,.mov (.t 3)⟩,⟨some 16,none,.bin .add (.t 15) (.c (.int .i64 1))⟩,⟨some 3,none,.mov (.t 16)⟩])))))) (.seq (.reg [⟨some 2,none,.mov (.c (.bool true))⟩]) .ret))))
set_option maxRecDepth 100000 in
theorem tr55 : trFn Try.prog Try.f55 = some (21, ir55, [.tmp 2]) := by kernel_rfl
theorem impl_IsPrime (p : Int) (H : Hp) (n : Nat) :
    FnS Try.prog 55 [i64 p] H n (fun v H' _ => v = bl (isP p) ∧ H' = H) := by
  refine FnS.of_body Try.func55 tr55 (by simp) (fun hf => ?_)
  dsimp only [argEnv]
  unfold ir55
  (repeat first|refine zG ?_|(refine LS.nilO ?_;intro nq hnq hltq;try refine zU ?_)|(refine MS.new ?_;intro bq hbq hbqf;try refine zU ?_)|(refine MS.nil ?_;intro nq hnq hltq;have hlq:=hltq _ _ (Hp.get_eq _ _ _);clear hltq;try refine zU ?_)|(refine LS.nilQ ?_;try with_reducible intro nq hnq;try refine zU ?_))
  refine RS.sp (t := 6) rfl (fun h1 => ?_) (fun h1 => ?_) <;> (try simp only [tb_eq, tb_eqF, decide_eq_true_eq, decide_eq_false_iff_not, beq_iff_eq, bne_iff_ne, ne_eq, Decidable.not_not, beq_eq_false_iff_ne, bne_eq_false_iff_eq, Bool.not_eq_true', Bool.not_eq_false', Bool.not_eq_eq_eq_not, Bool.not_true, Bool.not_false] at h1)
  · (repeat first|refine zG ?_|(refine LS.nilO ?_;intro nq hnq hltq;try refine zU ?_)|(refine MS.new ?_;intro bq hbq hbqf;try refine zU ?_)|(refine MS.nil ?_;intro nq hnq hltq;have hlq:=hltq _ _ (Hp.get_eq _ _ _);clear hltq;try refine zU ?_)|(refine LS.nilQ ?_;try with_reducible intro nq hnq;try refine zU ?_))
    exact ⟨_, H, rfl, by exact zD, by rw [isP_out (.inl h1)], rfl⟩
  · (repeat first|refine zG ?_|(refine LS.nilO ?_;intro nq hnq hltq;try refine zU ?_)|(refine MS.new ?_;intro bq hbq hbqf;try refine zU ?_)|(refine MS.nil ?_;intro nq hnq hltq;have hlq:=hltq _ _ (Hp.get_eq _ _ _);clear hltq;try refine zU ?_)|(refine LS.nilQ ?_;try with_reducible intro nq hnq;try refine zU ?_))
    refine zI ?_ ?_<;>intro h2
    · skip
      (repeat first|refine zG ?_|(refine LS.nilO ?_;intro nq hnq hltq;try refine zU ?_)|(refine MS.new ?_;intro bq hbq hbqf;try refine zU ?_)|(refine MS.nil ?_;intro nq hnq hltq;have hlq:=hltq _ _ (Hp.get_eq _ _ _);clear hltq;try refine zU ?_)|(refine LS.nilQ ?_;try with_reducible intro nq hnq;try refine zU ?_))
      exact ⟨_, H, rfl, by exact zD, by rw [isP_out (.inr h2)], rfl⟩
    · skip
      (repeat first|refine zG ?_|(refine LS.nilO ?_;intro nq hnq hltq;try refine zU ?_)|(refine MS.new ?_;intro bq hbq hbqf;try refine zU ?_)|(refine MS.nil ?_;intro nq hnq hltq;have hlq:=hltq _ _ (Hp.get_eq _ _ _);clear hltq;try refine zU ?_)|(refine LS.nilQ ?_;try with_reducible intro nq hnq;try refine zU ?_))
      refine CS.iter 31 (fun i => [(3, i64 (i + 2 : Nat)), (0, i64 p)]) (fun _ => H) (fun i => i < 6 ∧ ∀ k : Nat, 2 ≤ k → k < i + 2 → p % k ≠ 0) ⟨rfl, rfl, trivial⟩ (Drops.refl _ _) ⟨by omega, fun k h1 h2 => by omega⟩ ?_
      intro i n1 hi hn ⟨hi6, hJ⟩
      have hsq : 0 ≤ ((i + 2 : Nat) : Int) * ((i + 2 : Nat) : Int) ∧ ((i + 2 : Nat) : Int) * ((i + 2 : Nat) : Int) ≤ 8 * 8 := mulB (by omega) (by omega) (by omega) (by omega)
      (repeat first|refine zG ?_|(refine LS.nilO ?_;intro nq hnq hltq;try refine zU ?_)|(refine MS.new ?_;intro bq hbq hbqf;try refine zU ?_)|(refine MS.nil ?_;intro nq hnq hltq;have hlq:=hltq _ _ (Hp.get_eq _ _ _);clear hltq;try refine zU ?_)|(refine LS.nilQ ?_;try with_reducible intro nq hnq;try refine zU ?_))
      refine zI ?_ ?_<;>intro h3
      · skip
        have hi4 : i + 2 < 6 := by
          rcases Nat.lt_or_ge (i + 2) 6 with h | h
          · exact h
          · have := mulB (a := 6) (b := 6) (A := ((i + 2 : Nat) : Int)) (B := ((i + 2 : Nat) : Int)) (by omega) (by omega) (by omega) (by omega)
            omega
        (repeat first|refine zG ?_|(refine LS.nilO ?_;intro nq hnq hltq;try refine zU ?_)|(refine MS.new ?_;intro bq hbq hbqf;try refine zU ?_)|(refine MS.nil ?_;intro nq hnq hltq;have hlq:=hltq _ _ (Hp.get_eq _ _ _);clear hltq;try refine zU ?_)|(refine LS.nilQ ?_;try with_reducible intro nq hnq;try refine zU ?_))
        refine zI ?_ ?_<;>intro h4
        · skip
          (repeat first|refine zG ?_|(refine LS.nilO ?_;intro nq hnq hltq;try refine zU ?_)|(refine MS.new ?_;intro bq hbq hbqf;try refine zU ?_)|(refine MS.nil ?_;intro nq hnq hltq;have hlq:=hltq _ _ (Hp.get_eq _ _ _);clear hltq;try refine zU ?_)|(refine LS.nilQ ?_;try with_reducible intro nq hnq;try refine zU ?_))
          exact ⟨_, H, rfl, by exact zD, by rw [isP_div (k := i + 2) (by omega) (by
            have : ((i + 2 : Nat) : Int) * 2 ≤ ((i + 2 : Nat) : Int) * ((i + 2 : Nat) : Int) := Int.mul_le_mul_of_nonneg_left (by omega) (by omega)
            omega) h4], rfl⟩
        · skip
          (repeat first|refine zG ?_|(refine LS.nilO ?_;intro nq hnq hltq;try refine zU ?_)|(refine MS.new ?_;intro bq hbq hbqf;try refine zU ?_)|(refine MS.nil ?_;intro nq hnq hltq;have hlq:=hltq _ _ (Hp.get_eq _ _ _);clear hltq;try refine zU ?_)|(refine LS.nilQ ?_;try with_reducible intro nq hnq;try refine zU ?_))
          refine ⟨by omega, by (repeat first | exact trivial | refine And.intro rfl ?_), by exact zD, by omega, fun k h5 h6 => ?_⟩
          by_cases h7 : k < i + 2
          · exact hJ k h5 h7
          · have : k = i + 2 := by omega
            subst this
            exact h4
      · skip
        (repeat first|refine zG ?_|(refine LS.nilO ?_;intro nq hnq hltq;try refine zU ?_)|(refine MS.new ?_;intro bq hbq hbqf;try refine zU ?_)|(refine MS.nil ?_;intro nq hnq hltq;have hlq:=hltq _ _ (Hp.get_eq _ _ _);clear hltq;try refine zU ?_)|(refine LS.nilQ ?_;try with_reducible intro nq hnq;try refine zU ?_))
        refine ⟨_, H, rfl, by exact zD, ?_, rfl⟩
        rw [isP_yes (by omega) (by omega) (fun k h5 h6 => hJ k h5 (by
          rcases Nat.lt_or_ge k (i + 2) with h | h
          · exact h
          · have h8 : (i + 2) * (i + 2) ≤ k * k := Nat.mul_le_mul h h
            have h9 : (((i + 2) * (i + 2) : Nat) : Int) ≤ ((k * k : Nat) : Int) := Int.ofNat_le.2 h8
            rw [Int.natCast_mul] at h9
            omega))]
/-- (impl.field).mod -/
def ir35 : Cd := (.seq (.reg [⟨some 2,none,.box 71 (.t 0)⟩,⟨some 4,none,.mov (.c (.int .u8 0))⟩]) (.seq (.reg [⟨some 5,none,.mov (.t 1)⟩,⟨some 6,none,.fa 0 (.t 2)⟩,⟨some 7,none,.ld none (.t 6)⟩,⟨some 8,none,.bin .rem (.t 5) (.t 7)⟩,⟨some 1,none,.mov (.t 8)⟩]) (.seq (.seq (.reg [⟨some 9,none,.mov (.t 1)⟩,⟨some 10,none,.bin .lss (.t 9) (.c (.int .i64 0))⟩]) (.cond (.t 10) (.reg [⟨some 11,none,.mov (.t 1)⟩,⟨some 12,none,.fa 0 (.t 2)⟩,⟨some 13,none,.ld none (.t 12)⟩,⟨some 14,none,.bin .add (.t 11) (.t 13)⟩,⟨some 1,none,.mov (.t 14)⟩]) .skip)) (.seq (.reg [⟨some 15,none,.mov (.t 1)⟩,⟨some 16,none,.cv .u8 (.t 15)⟩,⟨some 4,none,.mov (.t 16)⟩]) .ret))))
set_option maxRecDepth 100000 in
theorem tr35 : trFn Try.prog Try.f35 = some (17, ir35, [.tmp 4]) := by kernel_rfl
theorem field_mod (p n' x : Int) (H : Hp) (n : Nat) (hp : 2 ≤ p) (hp2 : p ≤ 31) (hx : -1000000000 ≤ x ∧ x ≤ 1000000000) :
    FnS Try.prog 35 [fld p n', i64 x] H n (fun v H' _ => v = u8 (x % p) ∧ H' = H) := by
  have h1 := Int.emod_nonneg x (show p ≠ 0 by omega)
  have h2 := Int.emod_lt_of_pos x (show (0 : Int) < p by omega)
  refine FnS.of_body Try.func35 tr35 (by simp) (fun hf => ?_)
  dsimp only [argEnv]
  unfold ir35
  by_cases h0 : 0 ≤ x
  · (repeat first|refine zG ?_|(refine LS.nilO ?_;intro nq hnq hltq;try refine zU ?_)|(refine MS.new ?_;intro bq hbq hbqf;try refine zU ?_)|(refine MS.nil ?_;intro nq hnq hltq;have hlq:=hltq _ _ (Hp.get_eq _ _ _);clear hltq;try refine zU ?_)|(refine LS.nilQ ?_;try with_reducible intro nq hnq;try refine zU ?_))
    refine zI ?_ ?_<;>intro h
    · exfalso; omega
    · (repeat first|refine zG ?_|(refine LS.nilO ?_;intro nq hnq hltq;try refine zU ?_)|(refine MS.new ?_;intro bq hbq hbqf;try refine zU ?_)|(refine MS.nil ?_;intro nq hnq hltq;have hlq:=hltq _ _ (Hp.get_eq _ _ _);clear hltq;try refine zU ?_)|(refine LS.nilQ ?_;try with_reducible intro nq hnq;try refine zU ?_))
      exact ⟨_, H, rfl, by exact zD, rfl, rfl⟩
  · obtain ⟨t1, t2, t3⟩ := tmod_facts x p hp
    have hb : (x % p = 0 ∧ x.tmod p = 0) ∨ (x % p ≠ 0 ∧ x.tmod p = x % p - p) := by
      by_cases hz : x % p = 0
      · exact .inl ⟨hz, t1 hz⟩
      · exact .inr ⟨hz, t3 hz (by omega)⟩
    clear t1 t2 t3
    (repeat first|refine zG ?_|(refine LS.nilO ?_;intro nq hnq hltq;try refine zU ?_)|(refine MS.new ?_;intro bq hbq hbqf;try refine zU ?_)|(refine MS.nil ?_;intro nq hnq hltq;have hlq:=hltq _ _ (Hp.get_eq _ _ _);clear hltq;try refine zU ?_)|(refine LS.nilQ ?_;try with_reducible intro nq hnq;try refine zU ?_))
    refine RS.remt rfl rfl (by omega) ?_
    (repeat first|refine zG ?_|(refine LS.nilO ?_;intro nq hnq hltq;try refine zU ?_)|(refine MS.new ?_;intro bq hbq hbqf;try refine zU ?_)|(refine MS.nil ?_;intro nq hnq hltq;have hlq:=hltq _ _ (Hp.get_eq _ _ _);clear hltq;try refine zU ?_)|(refine LS.nilQ ?_;try with_reducible intro nq hnq;try refine zU ?_))
    generalize x.tmod p = t at hb ⊢
    refine zI ?_ ?_<;>intro h
    · have : t + p = x % p := by omega
      (repeat first|refine zG ?_|(refine LS.nilO ?_;intro nq hnq hltq;try refine zU ?_)|(refine MS.new ?_;intro bq hbq hbqf;try refine zU ?_)|(refine MS.nil ?_;intro nq hnq hltq;have hlq:=hltq _ _ (Hp.get_eq _ _ _);clear hltq;try refine zU ?_)|(refine LS.nilQ ?_;try with_reducible intro nq hnq;try refine zU ?_))
      exact ⟨u8 (x % p), H, by simp only [this], by exact zD, rfl, rfl⟩
    · have : t = x % p := by omega
      subst this
      (repeat first|refine zG ?_|(refine LS.nilO ?_;intro nq hnq hltq;try refine zU ?_)|(refine MS.new ?_;intro bq hbq hbqf;try refine zU ?_)|(refine MS.nil ?_;intro nq hnq hltq;have hlq:=hltq _ _ (Hp.get_eq _ _ _);clear hltq;try refine zU ?_)|(refine LS.nilQ ?_;try with_reducible intro nq hnq;try refine zU ?_))
      exact ⟨_, H, rfl, by exact zD, rfl, rfl⟩
/-- spec.l01Mod -/
def ir44 : Cd := (.seq (.reg [⟨some 4,none,.mov (.c (.int .u8 0))⟩]) (.seq (.reg [⟨some 5,none,.mov (.t 1)⟩,⟨some 6,none,.mov (.t 0)⟩,⟨some 7,none,.bin .rem (.t 5) (.t 6)⟩,⟨some 8,none,.mov (.t 0)⟩,⟨some 9,none,.bin .add (.t 7) (.t 8)⟩,⟨some 10,none,.mov (.t 0)⟩,⟨some 11,none,.bin .rem (.t 9) (.t 10)⟩,⟨some 12,none,.cv .u8 (.t 11)⟩,⟨some 4,none,.mov (.t 12)⟩]) .ret))
set_option maxRecDepth 100000 in
theorem tr44 : trFn Try.prog Try.f44 = some (13, ir44, [.tmp 4]) := by kernel_rfl
theorem spec_l01Mod (p x : Int) (H : Hp) (n : Nat) (hp : 2 ≤ p) (hp2 : p ≤ 31) (hx : -1000000000 ≤ x ∧ x ≤ 1000000000) :
    FnS Try.prog 44 [i64 p, i64 x] H n (fun v H' _ => v = u8 (x % p) ∧ H' = H) := by
  have h1 := Int.emod_nonneg x (show p ≠ 0 by omega)
  have h2 := Int.emod_lt_of_pos x (show (0 : Int) < p by omega)
  have ht : -p < x.tmod p ∧ x.tmod p < p ∧ (x.tmod p + p) % p = x % p := by
    obtain ⟨t1, t2, t3⟩ := tmod_facts x p hp
    by_cases hz : x % p = 0
    · rw [t1 hz, hz]; exact ⟨by omega, by omega, by simp⟩
    · by_cases h0 : 0 ≤ x
      · rw [t2 hz h0]; exact ⟨by omega, by omega, by simp⟩
      · rw [t3 hz (by omega)]; exact ⟨by omega, by omega, by rw [Int.sub_add_cancel]; simp⟩
  refine FnS.of_body Try.func44 tr44 (by simp) (fun hf => ?_)
  dsimp only [argEnv]
  unfold ir44
  (repeat first|refine zG ?_|(refine LS.nilO ?_;intro nq hnq hltq;try refine zU ?_)|(refine MS.new ?_;intro bq hbq hbqf;try refine zU ?_)|(refine MS.nil ?_;intro nq hnq hltq;have hlq:=hltq _ _ (Hp.get_eq _ _ _);clear hltq;try refine zU ?_)|(refine LS.nilQ ?_;try with_reducible intro nq hnq;try refine zU ?_))
  refine RS.remt rfl rfl (by omega) ?_
  (repeat first|refine zG ?_|(refine LS.nilO ?_;intro nq hnq hltq;try refine zU ?_)|(refine MS.new ?_;intro bq hbq hbqf;try refine zU ?_)|(refine MS.nil ?_;intro nq hnq hltq;have hlq:=hltq _ _ (Hp.get_eq _ _ _);clear hltq;try refine zU ?_)|(refine LS.nilQ ?_;try with_reducible intro nq hnq;try refine zU ?_))
  exact ⟨u8 (x % p), H, by rw [← ht.2.2], by exact zD, rfl, rfl⟩
/-- impl.basis -/
def ir17 : Cd := (.seq (.reg [⟨some 2,none,.new 27 [(8,(.int .u8 0))]⟩]) (.seq (.reg [⟨some 4,none,.build 8 [(8,(.int .u8 0))] []⟩,⟨some 3,none,.new 27 [(8,(.int .u8 0))]⟩,⟨none,none,.st 8 (.t 3) (.t 4)⟩]) (.seq (.reg [⟨some 5,none,.mov (.t 0)⟩,⟨some 6,none,.ia 8 1 (.t 3) (.t 5)⟩,⟨none,none,.st 1 (.t 6) (.c (.int .u8 1))⟩]) (.seq (.reg [⟨some 7,none,.ld (some 8) (.t 3)⟩,⟨none,none,.st 8 (.t 2) (.t 7)⟩]) .ret))))
set_option maxRecDepth 100000 in
theorem tr17 : trFn Try.prog Try.f17 = some (8, ir17, [.cell (some 8) 2]) := by kernel_rfl
theorem impl_basis (i : Nat) (H : Hp) (n : Nat) (hi : i < 8) :
    FnS Try.prog 17 [i64 i] H n (fun r H' _ => r = .arr 8 (bys (bas i)) ∧ H' = H) := by
  refine FnS.of_body Try.func17 tr17 (by simp) (fun hf => ?_)
  dsimp only [argEnv]
  unfold ir17
  (repeat first|refine zG ?_|(refine LS.nilO ?_;intro nq hnq hltq;try refine zU ?_)|(refine MS.new ?_;intro bq hbq hbqf;try refine zU ?_)|(refine MS.nil ?_;intro nq hnq hltq;have hlq:=hltq _ _ (Hp.get_eq _ _ _);clear hltq;try refine zU ?_)|(refine LS.nilQ ?_;try with_reducible intro nq hnq;try refine zU ?_))
  exact ⟨.arr 8 (bys (bas i)), H, conc_arr (fun q hq => by simp only [Nat.zero_add, put1, bys, bas]; split <;> rfl), by exact zD, rfl, rfl⟩
/-- (*impl.Algebra).field -/
def ir33 : Cd := (.seq (.reg [⟨some 2,none,.new 71 [(2,(.int .i64 0))]⟩]) (.seq (.drw true [9] [⟨some 3,none,.mov (.t 0)⟩,⟨some 4,none,.ck (.t 3)⟩,⟨some 5,none,.fa 0 (.t 4)⟩,⟨some 6,none,.ld none (.t 5)⟩,⟨some 7,none,.mov (.t 0)⟩,⟨some 8,none,.ck (.t 7)⟩,⟨some 9,none,.fa 1 (.t 8)⟩,⟨some 10,none,.ld none (.t 9)⟩,⟨some 11,none,.build 2 [(2,(.int .i64 0))] [(0,1,(.t 6)),(1,1,(.t 10))]⟩,⟨none,none,.st 2 (.t 2) (.t 11)⟩]) .ret))
set_option maxRecDepth 100000 in
theorem tr33 : trFn Try.prog Try.f33 = some (12, ir33, [.cell (some 2) 2]) := by kernel_rfl
theorem Algebra_field (p n' : Int) (b : Nat) (K : Blk) (H : Hp) (n : Nat) (hb : H.get b = some K) (hsz : K.size = 522) (h0 : K.c 0 = .int .i64 p) (h1 : K.c 1 = .int .i64 n')
    (hr : -9223372036854775808 ≤ p ∧ p ≤ 9223372036854775807 ∧ -9223372036854775808 ≤ n' ∧ n' ≤ 9223372036854775807) :
    FnS Try.prog 33 [ptr b 0] H n (fun r H' _ => r = fld p n' ∧ H' = H) := by
  refine FnS.of_body Try.func33 tr33 (by simp) (fun hf => ?_)
  dsimp only [argEnv]
  unfold ir33
  have hbn := getlt hf hb
  (repeat first|refine zG ?_|(refine LS.nilO ?_;intro nq hnq hltq;try refine zU ?_)|(refine MS.new ?_;intro bq hbq hbqf;try refine zU ?_)|(refine MS.nil ?_;intro nq hnq hltq;have hlq:=hltq _ _ (Hp.get_eq _ _ _);clear hltq;try refine zU ?_)|(refine LS.nilQ ?_;try with_reducible intro nq hnq;try refine zU ?_))
  exact ⟨fld p n', _, conc_arr (fldC_of rfl rfl), by exact zD, rfl, rfl⟩
/-- impl.unless -/
def ir30 : Cd := (.seq (.reg [⟨some 4,none,.mov (.c (.int .i64 0))⟩]) (.seq (.seq (.reg [⟨some 5,none,.mov (.t 0)⟩]) (.cond (.t 5) (.seq (.reg [⟨some 4,none,.mov (.c (.int .i64 0))⟩]) .ret) .skip)) (.seq (.reg [⟨some 6,none,.mov (.t 1)⟩,⟨some 4,none,.mov (.t 6)⟩]) .ret)))
set_option maxRecDepth 100000 in
theorem tr30 : trFn Try.prog Try.f30 = some (7, ir30, [.tmp 4]) := by kernel_rfl
theorem impl_unless (Q : Prop) (H : Hp) (n : Nat) :
    FnS Try.prog 30 [bl (tb Q), i64 1] H n (fun r H' _ => r = i64 (cd Q) ∧ H' = H) := by
  refine FnS.of_body Try.func30 tr30 (by simp) (fun hf => ?_)
  dsimp only [argEnv]
  unfold ir30
  (repeat first|refine zG ?_|(refine LS.nilO ?_;intro nq hnq hltq;try refine zU ?_)|(refine MS.new ?_;intro bq hbq hbqf;try refine zU ?_)|(refine MS.nil ?_;intro nq hnq hltq;have hlq:=hltq _ _ (Hp.get_eq _ _ _);clear hltq;try refine zU ?_)|(refine LS.nilQ ?_;try with_reducible intro nq hnq;try refine zU ?_))
  refine zI ?_ ?_<;>intro h1
  · (repeat first|refine zG ?_|(refine LS.nilO ?_;intro nq hnq hltq;try refine zU ?_)|(refine MS.new ?_;intro bq hbq hbqf;try refine zU ?_)|(refine MS.nil ?_;intro nq hnq hltq;have hlq:=hltq _ _ (Hp.get_eq _ _ _);clear hltq;try refine zU ?_)|(refine LS.nilQ ?_;try with_reducible intro nq hnq;try refine zU ?_))
    exact ⟨_, H, rfl, by exact zD, by rw [cd_true h1], rfl⟩
  · (repeat first|refine zG ?_|(refine LS.nilO ?_;intro nq hnq hltq;try refine zU ?_)|(refine MS.new ?_;intro bq hbq hbqf;try refine zU ?_)|(refine MS.nil ?_;intro nq hnq hltq;have hlq:=hltq _ _ (Hp.get_eq _ _ _);clear hltq;try refine zU ?_)|(refine LS.nilQ ?_;try with_reducible intro nq hnq;try refine zU ?_))
    exact ⟨_, H, rfl, by exact zD, by rw [cd_false h1], rfl⟩
end Go.Proofs.Ytdellpnmbgjofaa
