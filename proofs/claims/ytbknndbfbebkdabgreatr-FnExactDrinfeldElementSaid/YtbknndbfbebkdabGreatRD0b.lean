/- Contracts of the program's functions. -/
import Derived.Test.YtbknndbfbebkdabGreatRR
import Derived.Test.YtbknndbfbebkdabGreatRLW
import Derived.Test.YtbknndbfbebkdabGreatRD00
namespace Go.Proofs.YtbknndbfbebkdabGreatR
open Go.V
set_option linter.unusedSimpArgs false
set_option linter.unusedVariables false
set_option maxHeartbeats 4000000
/-- spec.l01Mod -/
def ir77 : Cd := (.seq (.reg [⟨some 4,none,.mov (.c (.int .u8 0))⟩]) (.seq (.reg [⟨some 5,none,.mov (.t 1)⟩,⟨some 6,none,.mov (.t 0)⟩,⟨some 7,none,.bin .rem (.t 5) (.t 6)⟩,⟨some 8,none,.mov (.t 0)⟩,⟨some 9,none,.bin .add (.t 7) (.t 8)⟩,⟨some 10,none,.mov (.t 0)⟩,⟨some 11,none,.bin .rem (.t 9) (.t 10)⟩,⟨some 12,none,.cv .u8 (.t 11)⟩,⟨some 4,none,.mov (.t 12)⟩]) .ret))
set_option maxRecDepth 100000 in
theorem tr77 : trFn Tryz.prog Tryz.f77 = some (13, ir77, [.tmp 4]) := by kernel_rfl
theorem spec_l01Mod (p x : Int) (H : Hp) (n : Nat) (hp : 2 ≤ p) (hp2 : p ≤ 31) (hx : -1000000000 ≤ x ∧ x ≤ 1000000000) :
    FnS Tryz.prog 77 [i64 p, i64 x] H n (fun v H' _ => v = u8 (x % p) ∧ H' = H) := by
  have h1 := Int.emod_nonneg x (show p ≠ 0 by omega)
  have h2 := Int.emod_lt_of_pos x (show (0 : Int) < p by omega)
  have ht : -p < x.tmod p ∧ x.tmod p < p ∧ (x.tmod p + p) % p = x % p := by
    obtain ⟨t1, t2, t3⟩ := tmod_facts x p hp
    by_cases hz : x % p = 0
    · rw [t1 hz, hz]; exact ⟨by omega, by omega, by simp⟩
    · by_cases h0 : 0 ≤ x
      · rw [t2 hz h0]; exact ⟨by omega, by omega, by simp⟩
      · rw [t3 hz (by omega)]; exact ⟨by omega, by omega, by rw [Int.sub_add_cancel]; simp⟩
  refine FnS.of_body Tryz.func77 tr77 (by simp) (fun hf => ?_)
  dsimp only [argEnv]
  unfold ir77
  (repeat first|refine zG ?_|(refine LS.nilO ?_;intro nq hnq hltq;try refine zU ?_)|(refine MS.new ?_;intro bq hbq hbqf;try refine zU ?_)|(refine MS.nil ?_;intro nq hnq hltq;have hlq:=hltq _ _ (Hp.get_eq _ _ _);clear hltq;try refine zU ?_)|(refine LS.nilQ ?_;try with_reducible intro nq hnq;try refine zU ?_))
  refine RS.remt rfl rfl (by omega) ?_
  (repeat first|refine zG ?_|(refine LS.nilO ?_;intro nq hnq hltq;try refine zU ?_)|(refine MS.new ?_;intro bq hbq hbqf;try refine zU ?_)|(refine MS.nil ?_;intro nq hnq hltq;have hlq:=hltq _ _ (Hp.get_eq _ _ _);clear hltq;try refine zU ?_)|(refine LS.nilQ ?_;try with_reducible intro nq hnq;try refine zU ?_))
  exact ⟨u8 (x % p), H, by rw [← ht.2.2], by exact zD, rfl, rfl⟩
/-- spec.l01Vector -/
def ir69 : Cd := (.seq (.reg [⟨some 5,none,.box 27 (.t 2)⟩,⟨some 6,none,.mov (.c (.bool false))⟩]) (.seq (.seq (.reg [⟨some 7,none,.mov (.c (.int .i64 0))⟩]) (.block 0 (.loop (.seq (.seq (.reg [⟨some 8,none,.mov (.t 7)⟩,⟨some 9,none,.bin .lss (.t 8) (.c (.int .i64 8))⟩]) (.cond (.t 9) .skip (.exit 0))) (.seq (.block 1 (.seq (.reg [⟨some 12,none,.mov (.t 7)⟩,⟨some 13,none,.ia 8 1 (.t 5) (.t 12)⟩,⟨some 14,none,.ld none (.t 13)⟩,⟨some 15,none,.cv .i64 (.t 14)⟩,⟨some 16,none,.mov (.t 0)⟩,⟨some 17,none,.bin .geq (.t 15) (.t 16)⟩,⟨some 18,none,.mov (.t 17)⟩,⟨some 19,(some (18,false)),.mov (.t 7)⟩,⟨some 20,(some (18,false)),.mov (.t 1)⟩,⟨some 21,(some (18,false)),.bin .geq (.t 19) (.t 20)⟩,⟨some 22,(some (18,false)),.mov (.t 21)⟩,⟨some 23,(some (22,true)),.mov (.t 7)⟩,⟨some 24,(some (22,true)),.ia 8 1 (.t 5) (.t 23)⟩,⟨some 25,(some (22,true)),.ld none (.t 24)⟩,⟨some 26,(some (22,true)),.bin .neq (.t 25) (.c (.int .u8 0))⟩,⟨some 27,(some (18,false)),.pick (.t 22) (.t 26) (.c (.bool false))⟩,⟨some 28,none,.pick (.t 18) (.c (.bool true)) (.t 27)⟩]) (.cond (.t 28) (.seq (.reg [⟨some 6,none,.mov (.c (.bool false))⟩]) .ret) .skip))) (.reg [⟨some 10,none,.mov (.t 7)⟩,⟨some 11,none,.bin .add (.t 10) (.c (.int .i64 1))⟩,⟨some 7,none,.mov (.t 11)⟩])))))) (.seq (.reg [⟨some 6,none,.mov (.c (.bool true))⟩]) .ret)))
set_option maxRecDepth 100000 in
theorem tr69 : trFn Tryz.prog Tryz.f69 = some (29, ir69, [.tmp 6]) := by kernel_rfl
theorem spec_l01Vector (p n' : Int) (v : Nat → Int) (H : Hp) (n : Nat) (hv : isBy 8 v) :
    FnS Tryz.prog 69 [i64 p, i64 n', .arr 8 (bys v)] H n (fun r H' _ => r = bl (tb (isVec p n' v)) ∧ H' = H) := by
  refine FnS.of_body Tryz.func69 tr69 (by simp) (fun hf => ?_)
  dsimp only [argEnv]
  unfold ir69
  (repeat first|refine zG ?_|(refine LS.nilO ?_;intro nq hnq hltq;try refine zU ?_)|(refine MS.new ?_;intro bq hbq hbqf;try refine zU ?_)|(refine MS.nil ?_;intro nq hnq hltq;have hlq:=hltq _ _ (Hp.get_eq _ _ _);clear hltq;try refine zU ?_)|(refine LS.nilQ ?_;try with_reducible intro nq hnq;try refine zU ?_))
  refine CS.iter 8 (fun i => [(7, i64 i), (5, ptr n 0), (0, i64 p), (1, i64 n')]) (fun _ => (n, ⟨8, bys v, 27⟩) :: H) (fun i => ∀ j : Nat, j < i → v j < p ∧ (n' ≤ j → v j = 0)) (by (repeat first | exact trivial | refine And.intro rfl ?_)) (Drops.refl _ _) (fun j hj => by omega) ?_
  intro i n4 hi hn4 hJ
  (repeat first|refine zG ?_|(refine LS.nilO ?_;intro nq hnq hltq;try refine zU ?_)|(refine MS.new ?_;intro bq hbq hbqf;try refine zU ?_)|(refine MS.nil ?_;intro nq hnq hltq;have hlq:=hltq _ _ (Hp.get_eq _ _ _);clear hltq;try refine zU ?_)|(refine LS.nilQ ?_;try with_reducible intro nq hnq;try refine zU ?_))
  refine zI ?_ ?_<;>intro h3
  · have hvi := hv i (by omega)
    (repeat first|refine zG ?_|(refine LS.nilO ?_;intro nq hnq hltq;try refine zU ?_)|(refine MS.new ?_;intro bq hbq hbqf;try refine zU ?_)|(refine MS.nil ?_;intro nq hnq hltq;have hlq:=hltq _ _ (Hp.get_eq _ _ _);clear hltq;try refine zU ?_)|(refine LS.nilQ ?_;try with_reducible intro nq hnq;try refine zU ?_))
    refine RS.sp (t := 18) rfl (fun h4 => ?_) (fun h4 => ?_) <;> (try simp only [tb_eq, tb_eqF, decide_eq_true_eq, decide_eq_false_iff_not, beq_iff_eq, bne_iff_ne, ne_eq, Decidable.not_not, beq_eq_false_iff_ne, bne_eq_false_iff_eq, Bool.not_eq_true', Bool.not_eq_false', Bool.not_eq_eq_eq_not, Bool.not_true, Bool.not_false] at h4)
    · (repeat first|refine zG ?_|(refine LS.nilO ?_;intro nq hnq hltq;try refine zU ?_)|(refine MS.new ?_;intro bq hbq hbqf;try refine zU ?_)|(refine MS.nil ?_;intro nq hnq hltq;have hlq:=hltq _ _ (Hp.get_eq _ _ _);clear hltq;try refine zU ?_)|(refine LS.nilQ ?_;try with_reducible intro nq hnq;try refine zU ?_))
      exact ⟨_, H, rfl, by exact zD, by rw [tb_false (fun h => by have := (h i (by omega)).1; omega)], rfl⟩
    · (repeat first|refine zG ?_|(refine LS.nilO ?_;intro nq hnq hltq;try refine zU ?_)|(refine MS.new ?_;intro bq hbq hbqf;try refine zU ?_)|(refine MS.nil ?_;intro nq hnq hltq;have hlq:=hltq _ _ (Hp.get_eq _ _ _);clear hltq;try refine zU ?_)|(refine LS.nilQ ?_;try with_reducible intro nq hnq;try refine zU ?_))
      refine RS.sp (t := 22) rfl (fun h5 => ?_) (fun h5 => ?_) <;> (try simp only [tb_eq, tb_eqF, decide_eq_true_eq, decide_eq_false_iff_not, beq_iff_eq, bne_iff_ne, ne_eq, Decidable.not_not, beq_eq_false_iff_ne, bne_eq_false_iff_eq, Bool.not_eq_true', Bool.not_eq_false', Bool.not_eq_eq_eq_not, Bool.not_true, Bool.not_false] at h5)
      · (repeat first|refine zG ?_|(refine LS.nilO ?_;intro nq hnq hltq;try refine zU ?_)|(refine MS.new ?_;intro bq hbq hbqf;try refine zU ?_)|(refine MS.nil ?_;intro nq hnq hltq;have hlq:=hltq _ _ (Hp.get_eq _ _ _);clear hltq;try refine zU ?_)|(refine LS.nilQ ?_;try with_reducible intro nq hnq;try refine zU ?_))
        refine zI ?_ ?_<;>intro h6
        · (repeat first|refine zG ?_|(refine LS.nilO ?_;intro nq hnq hltq;try refine zU ?_)|(refine MS.new ?_;intro bq hbq hbqf;try refine zU ?_)|(refine MS.nil ?_;intro nq hnq hltq;have hlq:=hltq _ _ (Hp.get_eq _ _ _);clear hltq;try refine zU ?_)|(refine LS.nilQ ?_;try with_reducible intro nq hnq;try refine zU ?_))
          exact ⟨_, H, rfl, by exact zD, by rw [tb_false (fun h => h6 ((h i (by omega)).2 (by omega)))], rfl⟩
        · (repeat first|refine zG ?_|(refine LS.nilO ?_;intro nq hnq hltq;try refine zU ?_)|(refine MS.new ?_;intro bq hbq hbqf;try refine zU ?_)|(refine MS.nil ?_;intro nq hnq hltq;have hlq:=hltq _ _ (Hp.get_eq _ _ _);clear hltq;try refine zU ?_)|(refine LS.nilQ ?_;try with_reducible intro nq hnq;try refine zU ?_))
          refine ⟨by omega, by (repeat first | exact trivial | refine And.intro rfl ?_), by exact zD, fun j hj => ?_⟩
          by_cases e : j < i
          · exact hJ j e
          · have : j = i := by omega
            subst this; exact ⟨by omega, fun _ => h6⟩
      · (repeat first|refine zG ?_|(refine LS.nilO ?_;intro nq hnq hltq;try refine zU ?_)|(refine MS.new ?_;intro bq hbq hbqf;try refine zU ?_)|(refine MS.nil ?_;intro nq hnq hltq;have hlq:=hltq _ _ (Hp.get_eq _ _ _);clear hltq;try refine zU ?_)|(refine LS.nilQ ?_;try with_reducible intro nq hnq;try refine zU ?_))
        refine ⟨by omega, by (repeat first | exact trivial | refine And.intro rfl ?_), by exact zD, fun j hj => ?_⟩
        by_cases e : j < i
        · exact hJ j e
        · have : j = i := by omega
          subst this; exact ⟨by omega, fun h => by omega⟩
  · (repeat first|refine zG ?_|(refine LS.nilO ?_;intro nq hnq hltq;try refine zU ?_)|(refine MS.new ?_;intro bq hbq hbqf;try refine zU ?_)|(refine MS.nil ?_;intro nq hnq hltq;have hlq:=hltq _ _ (Hp.get_eq _ _ _);clear hltq;try refine zU ?_)|(refine LS.nilQ ?_;try with_reducible intro nq hnq;try refine zU ?_))
    exact ⟨_, H, rfl, by exact zD, by rw [tb_true (show isVec p n' v from fun j hj => hJ j (by omega))], rfl⟩
/-- spec.l01Basis -/
def ir31 : Cd := (.seq (.reg [⟨some 2,none,.new 27 [(8,(.int .u8 0))]⟩]) (.seq (.reg [⟨some 4,none,.build 8 [(8,(.int .u8 0))] []⟩,⟨some 3,none,.new 27 [(8,(.int .u8 0))]⟩,⟨none,none,.st 8 (.t 3) (.t 4)⟩]) (.seq (.reg [⟨some 5,none,.mov (.t 0)⟩,⟨some 6,none,.ia 8 1 (.t 3) (.t 5)⟩,⟨none,none,.st 1 (.t 6) (.c (.int .u8 1))⟩]) (.seq (.reg [⟨some 7,none,.ld (some 8) (.t 3)⟩,⟨none,none,.st 8 (.t 2) (.t 7)⟩]) .ret))))
set_option maxRecDepth 100000 in
theorem tr31 : trFn Tryz.prog Tryz.f31 = some (8, ir31, [.cell (some 8) 2]) := by kernel_rfl
theorem spec_l01Basis (i : Nat) (H : Hp) (n : Nat) (hi : i < 8) :
    FnS Tryz.prog 31 [i64 i] H n (fun r H' _ => r = .arr 8 (bys (bas i)) ∧ H' = H) := by
  refine FnS.of_body Tryz.func31 tr31 (by simp) (fun hf => ?_)
  dsimp only [argEnv]
  unfold ir31
  (repeat first|refine zG ?_|(refine LS.nilO ?_;intro nq hnq hltq;try refine zU ?_)|(refine MS.new ?_;intro bq hbq hbqf;try refine zU ?_)|(refine MS.nil ?_;intro nq hnq hltq;have hlq:=hltq _ _ (Hp.get_eq _ _ _);clear hltq;try refine zU ?_)|(refine LS.nilQ ?_;try with_reducible intro nq hnq;try refine zU ?_))
  exact ⟨.arr 8 (bys (bas i)), H, conc_arr (fun q hq => by simp only [Nat.zero_add, put1, bys, bas]; split <;> rfl), by exact zD, rfl, rfl⟩
/-- (*impl.Hopf).algebra -/
def ir100 : Cd := (.seq (.reg [⟨some 2,none,.mov (.c .nil)⟩]) (.seq (.drw true [17] [⟨some 3,none,.mov (.t 0)⟩,⟨some 4,none,.ck (.t 3)⟩,⟨some 5,none,.fa 0 (.t 4)⟩,⟨some 6,none,.ld none (.t 5)⟩,⟨some 7,none,.mov (.t 0)⟩,⟨some 8,none,.ck (.t 7)⟩,⟨some 9,none,.fa 1 (.t 8)⟩,⟨some 10,none,.ld none (.t 9)⟩,⟨some 11,none,.mov (.t 0)⟩,⟨some 12,none,.ck (.t 11)⟩,⟨some 13,none,.fa 2 (.t 12)⟩,⟨some 14,none,.ld (some 8) (.t 13)⟩,⟨some 15,none,.mov (.t 0)⟩,⟨some 16,none,.ck (.t 15)⟩,⟨some 17,none,.fa 10 (.t 16)⟩,⟨some 18,none,.ld (some 512) (.t 17)⟩,⟨some 19,none,.build 522 [(2,(.int .i64 0)),(520,(.int .u8 0))] [(0,1,(.t 6)),(1,1,(.t 10)),(2,8,(.t 14)),(10,512,(.t 18))]⟩,⟨some 20,none,.box 61 (.t 19)⟩,⟨some 2,none,.mov (.t 20)⟩]) .ret))
set_option maxRecDepth 100000 in
theorem tr100 : trFn Tryz.prog Tryz.f100 = some (21, ir100, [.tmp 2]) := by kernel_rfl
theorem Hopf_algebra (h : HT) (b : Nat) (K : Blk) (H : Hp) (n : Nat) (hb : H.get b = some K) (hsz : K.size = 1106) (hK : h.At K.c) :
    FnS Tryz.prog 100 [ptr b 0] H n (newAlg 61 h.p h.n h.u h.m n H) := by
  obtain ⟨k0, k1, k2, k3, k4, k5, k6⟩ := hK
  refine FnS.of_body Tryz.func100 tr100 (by simp) (fun hf => ?_)
  dsimp only [argEnv]
  unfold ir100
  have hbn := getlt hf hb
  (repeat first|refine zG ?_|(refine LS.nilO ?_;intro nq hnq hltq;try refine zU ?_)|(refine MS.new ?_;intro bq hbq hbqf;try refine zU ?_)|(refine MS.nil ?_;intro nq hnq hltq;have hlq:=hltq _ _ (Hp.get_eq _ _ _);clear hltq;try refine zU ?_)|(refine LS.nilQ ?_;try with_reducible intro nq hnq;try refine zU ?_))
  refine ⟨ptr nq 0, _, rfl, Drops.refl _ _, nq, _, rfl, hnq, by omega, rfl, ?_, ?_, fun q hq => ?_, fun q hq => ?_⟩
  · simp [splice, put1]
  · simp [splice, put1]
  · simp only [splice]
    rw [if_neg (by omega), if_pos (by omega), Nat.add_sub_cancel_left]
    rfl
  · simp only [splice]
    rw [if_pos (by omega), Nat.add_sub_cancel_left]
    rfl
/-- spec.l03Coalgebra -/
def ir119 : Cd := (.seq (.reg [⟨some 1,none,.box 35 (.t 0)⟩,⟨some 2,none,.new 46 [(2,(.int .i64 0)),(520,(.int .u8 0))]⟩]) (.seq (.reg [⟨some 3,none,.fa 0 (.t 1)⟩,⟨some 4,none,.ld none (.t 3)⟩,⟨some 5,none,.fa 1 (.t 1)⟩,⟨some 6,none,.ld none (.t 5)⟩,⟨some 7,none,.fa 522 (.t 1)⟩,⟨some 8,none,.ld (some 8) (.t 7)⟩,⟨some 9,none,.fa 530 (.t 1)⟩,⟨some 10,none,.ld (some 512) (.t 9)⟩,⟨some 11,none,.build 522 [(2,(.int .i64 0)),(520,(.int .u8 0))] [(0,1,(.t 4)),(1,1,(.t 6)),(2,8,(.t 8)),(10,512,(.t 10))]⟩,⟨none,none,.st 522 (.t 2) (.t 11)⟩]) .ret))
set_option maxRecDepth 100000 in
theorem tr119 : trFn Tryz.prog Tryz.f119 = some (12, ir119, [.cell (some 522) 2]) := by kernel_rfl
theorem spec_l03Coalgebra (K : Nat → SV) (h : HT) (H : Hp) (n : Nat) (hK : h.At K) :
    FnS Tryz.prog 119 [.arr 1106 K] H n (fun r H' _ => r = .arr 522 (coC K) ∧ H' = H) := by
  have c4 := coC_e hK
  have c5 := coC_c hK
  obtain ⟨k0, k1, k2, k3, k4, k5, k6⟩ := hK
  refine FnS.of_body Tryz.func119 tr119 (by simp) (fun hf => ?_)
  dsimp only [argEnv]
  unfold ir119
  (repeat first|refine zG ?_|(refine LS.nilO ?_;intro nq hnq hltq;try refine zU ?_)|(refine MS.new ?_;intro bq hbq hbqf;try refine zU ?_)|(refine MS.nil ?_;intro nq hnq hltq;have hlq:=hltq _ _ (Hp.get_eq _ _ _);clear hltq;try refine zU ?_)|(refine LS.nilQ ?_;try with_reducible intro nq hnq;try refine zU ?_))
  refine ⟨.arr 522 (coC K), H, conc_arr (fun q hq => ?_), by exact zD, rfl, rfl⟩
  simp only [Nat.zero_add, splice, put1]
  by_cases e0 : q < 2
  · rw [if_neg (by omega), if_neg (by omega)]
    by_cases e1 : q = 1
    · subst e1; rw [if_pos rfl]; exact k1.symm
    · have : q = 0 := by omega
      subst this; rw [if_neg (by omega), if_pos rfl]; exact k0.symm
  by_cases e1 : q < 10
  · rw [if_neg (by omega), if_pos (by omega)]
    have := c4 (q - 2) (by omega)
    rw [show 2 + (q - 2) = q by omega] at this
    rw [this]; rfl
  · rw [if_pos (by omega)]
    have := c5 (q - 10) (by omega)
    rw [show 10 + (q - 10) = q by omega] at this
    rw [this]; rfl
/-- spec.l03Counit -/
def ir120 : Cd := (.seq (.reg [⟨some 2,none,.box 35 (.t 0)⟩,⟨some 3,none,.box 27 (.t 1)⟩,⟨some 4,none,.mov (.c (.int .i64 0))⟩]) (.seq (.reg [⟨some 5,none,.mov (.c (.int .i64 0))⟩]) (.seq (.seq (.reg [⟨some 6,none,.mov (.c (.int .i64 0))⟩]) (.block 0 (.loop (.seq (.seq (.reg [⟨some 7,none,.mov (.t 6)⟩,⟨some 8,none,.fa 1 (.t 2)⟩,⟨some 9,none,.ld none (.t 8)⟩,⟨some 10,none,.bin .lss (.t 7) (.t 9)⟩]) (.cond (.t 10) .skip (.exit 0))) (.seq (.block 1 (.drw true [] [⟨some 13,none,.mov (.t 5)⟩,⟨some 14,none,.mov (.t 6)⟩,⟨some 15,none,.ia 8 1 (.t 3) (.t 14)⟩,⟨some 16,none,.ld none (.t 15)⟩,⟨some 17,none,.cv .i64 (.t 16)⟩,⟨some 18,none,.mov (.t 6)⟩,⟨some 19,none,.fa 522 (.t 2)⟩,⟨some 20,none,.ia 8 1 (.t 19) (.t 18)⟩,⟨some 21,none,.ld none (.t 20)⟩,⟨some 22,none,.cv .i64 (.t 21)⟩,⟨some 23,none,.bin .mul (.t 17) (.t 22)⟩,⟨some 24,none,.bin .add (.t 13) (.t 23)⟩,⟨some 5,none,.mov (.t 24)⟩])) (.reg [⟨some 11,none,.mov (.t 6)⟩,⟨some 12,none,.bin .add (.t 11) (.c (.int .i64 1))⟩,⟨some 6,none,.mov (.t 12)⟩])))))) (.seq (.reg [⟨some 25,none,.mov (.t 5)⟩,⟨some 26,none,.fa 0 (.t 2)⟩,⟨some 27,none,.ld none (.t 26)⟩,⟨some 28,none,.bin .rem (.t 25) (.t 27)⟩,⟨some 4,none,.mov (.t 28)⟩]) .ret))))
set_option maxRecDepth 100000 in
theorem tr120 : trFn Tryz.prog Tryz.f120 = some (29, ir120, [.tmp 4]) := by kernel_rfl
theorem spec_l03Counit (h : HT) (a : Nat) (v : Nat → Int) (K : Nat → SV) (H : Hp) (n : Nat) (hS : HS h a) (hK : h.At K) (hB : h.By) (hv : isBy 8 v) :
    FnS Tryz.prog 120 [.arr 1106 K, .arr 8 (bys v)] H n (fun r H' _ => r = i64 (dotk h.p h.e v 8) ∧ H' = H) := by
  have hp := hS.hp
  have ha := hS.ha
  have hk0 := hK.p
  have hk1 := hK.n
  rw [hS.hn] at hk1
  have hk5 := hK.e
  refine FnS.of_body Tryz.func120 tr120 (by simp) (fun hf => ?_)
  dsimp only [argEnv]
  unfold ir120
  (repeat first|refine zG ?_|(refine LS.nilO ?_;intro nq hnq hltq;try refine zU ?_)|(refine MS.new ?_;intro bq hbq hbqf;try refine zU ?_)|(refine MS.nil ?_;intro nq hnq hltq;have hlq:=hltq _ _ (Hp.get_eq _ _ _);clear hltq;try refine zU ?_)|(refine LS.nilQ ?_;try with_reducible intro nq hnq;try refine zU ?_))
  refine CS.iter a (fun i => [(6, i64 i), (5, i64 (sm (fun i => v i * h.e i) i)), (2, ptr n 0), (3, ptr (n + 1) 0)]) (fun _ => (n + 1, ⟨8, bys v, 27⟩) :: (n, ⟨1106, K, 35⟩) :: H) (fun _ => True) (by (repeat first | exact trivial | refine And.intro rfl ?_)) (Drops.refl _ _) trivial ?_
  intro i n1 hi hn _
  have hs := sm_b (f := fun i => v i * h.e i) (B := 65025) (n := i) (fun q hq => by
    have h1 := hv q (by omega)
    have h2 := hB.e q (by omega)
    exact mulB h1.1 h1.2 h2.1 h2.2)
  (repeat first|refine zG ?_|(refine LS.nilO ?_;intro nq hnq hltq;try refine zU ?_)|(refine MS.new ?_;intro bq hbq hbqf;try refine zU ?_)|(refine MS.nil ?_;intro nq hnq hltq;have hlq:=hltq _ _ (Hp.get_eq _ _ _);clear hltq;try refine zU ?_)|(refine LS.nilQ ?_;try with_reducible intro nq hnq;try refine zU ?_))
  refine zI ?_ ?_<;>intro h2
  · have hvi := hv i (by omega)
    have hei := hB.e i (by omega)
    have hve := mulB hvi.1 hvi.2 hei.1 hei.2
    (repeat first|refine zG ?_|(refine LS.nilO ?_;intro nq hnq hltq;try refine zU ?_)|(refine MS.new ?_;intro bq hbq hbqf;try refine zU ?_)|(refine MS.nil ?_;intro nq hnq hltq;have hlq:=hltq _ _ (Hp.get_eq _ _ _);clear hltq;try refine zU ?_)|(refine LS.nilQ ?_;try with_reducible intro nq hnq;try refine zU ?_))
    exact ⟨by omega, by (repeat first | exact trivial | refine And.intro rfl ?_), Drops.refl _ _, trivial⟩
  · have : i = a := by omega
    subst this
    (repeat first|refine zG ?_|(refine LS.nilO ?_;intro nq hnq hltq;try refine zU ?_)|(refine MS.new ?_;intro bq hbq hbqf;try refine zU ?_)|(refine MS.nil ?_;intro nq hnq hltq;have hlq:=hltq _ _ (Hp.get_eq _ _ _);clear hltq;try refine zU ?_)|(refine LS.nilQ ?_;try with_reducible intro nq hnq;try refine zU ?_))
    exact ⟨i64 (dotk h.p v h.e i), H, rfl, by exact zD, by rw [dotk_end ha (.inr hS.em), dotk_comm], rfl⟩
/-- impl.unless -/
def ir40 : Cd := (.seq (.reg [⟨some 4,none,.mov (.c (.int .i64 0))⟩]) (.seq (.seq (.reg [⟨some 5,none,.mov (.t 0)⟩]) (.cond (.t 5) (.seq (.reg [⟨some 4,none,.mov (.c (.int .i64 0))⟩]) .ret) .skip)) (.seq (.reg [⟨some 6,none,.mov (.t 1)⟩,⟨some 4,none,.mov (.t 6)⟩]) .ret)))
set_option maxRecDepth 100000 in
theorem tr40 : trFn Tryz.prog Tryz.f40 = some (7, ir40, [.tmp 4]) := by kernel_rfl
theorem impl_unless (Q : Prop) (H : Hp) (n : Nat) :
    FnS Tryz.prog 40 [bl (tb Q), i64 1] H n (fun r H' _ => r = i64 (cd Q) ∧ H' = H) := by
  refine FnS.of_body Tryz.func40 tr40 (by simp) (fun hf => ?_)
  dsimp only [argEnv]
  unfold ir40
  (repeat first|refine zG ?_|(refine LS.nilO ?_;intro nq hnq hltq;try refine zU ?_)|(refine MS.new ?_;intro bq hbq hbqf;try refine zU ?_)|(refine MS.nil ?_;intro nq hnq hltq;have hlq:=hltq _ _ (Hp.get_eq _ _ _);clear hltq;try refine zU ?_)|(refine LS.nilQ ?_;try with_reducible intro nq hnq;try refine zU ?_))
  refine zI ?_ ?_<;>intro h1
  · (repeat first|refine zG ?_|(refine LS.nilO ?_;intro nq hnq hltq;try refine zU ?_)|(refine MS.new ?_;intro bq hbq hbqf;try refine zU ?_)|(refine MS.nil ?_;intro nq hnq hltq;have hlq:=hltq _ _ (Hp.get_eq _ _ _);clear hltq;try refine zU ?_)|(refine LS.nilQ ?_;try with_reducible intro nq hnq;try refine zU ?_))
    exact ⟨_, H, rfl, by exact zD, by rw [cd_true h1], rfl⟩
  · (repeat first|refine zG ?_|(refine LS.nilO ?_;intro nq hnq hltq;try refine zU ?_)|(refine MS.new ?_;intro bq hbq hbqf;try refine zU ?_)|(refine MS.nil ?_;intro nq hnq hltq;have hlq:=hltq _ _ (Hp.get_eq _ _ _);clear hltq;try refine zU ?_)|(refine LS.nilQ ?_;try with_reducible intro nq hnq;try refine zU ?_))
    exact ⟨_, H, rfl, by exact zD, by rw [cd_false h1], rfl⟩
/-- impl.transposed -/
def ir60 : Cd := (.seq (.reg [⟨some 2,none,.new 29 [(64,(.int .u8 0))]⟩]) (.seq (.reg [⟨some 6,none,.build 64 [(64,(.int .u8 0))] []⟩,⟨some 3,none,.new 29 [(64,(.int .u8 0))]⟩,⟨none,none,.st 64 (.t 3) (.t 6)⟩]) (.seq (.seq (.reg [⟨some 7,none,.mov (.c (.int .i64 0))⟩]) (.block 0 (.loop (.seq (.reg [⟨some 8,none,.bin .lss (.t 7) (.c (.int .i64 8))⟩]) (.seq (.cond (.t 8) .skip (.exit 0)) (.seq (.block 1 (.seq (.reg [⟨some 9,none,.mov (.t 7)⟩,⟨some 4,none,.mov (.t 9)⟩]) (.seq (.reg [⟨some 10,none,.mov (.c (.int .i64 0))⟩]) (.block 2 (.loop (.seq (.reg [⟨some 11,none,.bin .lss (.t 10) (.c (.int .i64 8))⟩]) (.seq (.cond (.t 11) .skip (.exit 2)) (.seq (.block 3 (.seq (.reg [⟨some 12,none,.mov (.t 10)⟩,⟨some 5,none,.mov (.t 12)⟩]) (.drw true [11] [⟨some 13,none,.mov (.t 4)⟩,⟨some 14,none,.mov (.t 5)⟩,⟨some 15,none,.mov (.t 0)⟩,⟨some 16,none,.mov (.t 5)⟩,⟨some 17,none,.mov (.t 4)⟩,⟨some 18,none,.ck (.t 15)⟩,⟨some 19,none,.ia 8 8 (.t 18) (.t 16)⟩,⟨some 20,none,.ia 8 1 (.t 19) (.t 17)⟩,⟨some 21,none,.ld none (.t 20)⟩,⟨some 22,none,.ia 8 8 (.t 3) (.t 13)⟩,⟨some 23,none,.ia 8 1 (.t 22) (.t 14)⟩,⟨none,none,.st 1 (.t 23) (.t 21)⟩]))) (.reg [⟨some 24,none,.bin .add (.t 10) (.c (.int .i64 1))⟩,⟨some 10,none,.mov (.t 24)⟩]))))))))) (.reg [⟨some 25,none,.bin .add (.t 7) (.c (.int .i64 1))⟩,⟨some 7,none,.mov (.t 25)⟩]))))))) (.seq (.reg [⟨some 26,none,.ld (some 64) (.t 3)⟩,⟨none,none,.st 64 (.t 2) (.t 26)⟩]) .ret))))
set_option maxRecDepth 100000 in
theorem tr60 : trFn Tryz.prog Tryz.f60 = some (27, ir60, [.cell (some 64) 2]) := by kernel_rfl
theorem impl_transposed (s : Nat → Int) (b o : Nat) (K : Blk) (H : Hp) (n : Nat) (hb : H.get b = some K) (ho : o + 64 ≤ K.size) (hc : ∀ i, i < 64 → K.c (o + i) = .int .u8 (s i)) :
    FnS Tryz.prog 60 [ptr b o] H n (fun r H' _ => r = .arr 64 (bys (trn s)) ∧ H' = H) := by
  refine FnS.of_body Tryz.func60 tr60 (by simp) (fun hf => ?_)
  dsimp only [argEnv]
  unfold ir60
  have hbn := getlt hf hb
  (repeat first|refine zG ?_|(refine LS.nilO ?_;intro nq hnq hltq;try refine zU ?_)|(refine MS.new ?_;intro bq hbq hbqf;try refine zU ?_)|(refine MS.nil ?_;intro nq hnq hltq;have hlq:=hltq _ _ (Hp.get_eq _ _ _);clear hltq;try refine zU ?_)|(refine LS.nilQ ?_;try with_reducible intro nq hnq;try refine zU ?_))
  refine CS.iter 8 (fun i => [(7, i64 i), (0, ptr b o), (2, ptr n 0), (3, ptr (n + 1) 0)])
    (fun i => (n + 1, ⟨64, bys (cellsTo (trn s) (8 * i)), 29⟩) :: (n, ⟨64, bys (fun _ => 0), 29⟩) :: H) (fun _ => True) (by (repeat first | exact trivial | refine And.intro rfl ?_))
    (Drops.keepc rfl rfl (fun _ _ => by rw [show cellsTo (trn s) (8 * 0) = fun _ => 0 from cellsTo_zero _]; rfl) (Drops.keepc rfl rfl (fun _ _ => rfl) (Drops.refl _ _))) trivial ?_
  intro i n1 hi hn _
  (repeat first|refine zG ?_|(refine LS.nilO ?_;intro nq hnq hltq;try refine zU ?_)|(refine MS.new ?_;intro bq hbq hbqf;try refine zU ?_)|(refine MS.nil ?_;intro nq hnq hltq;have hlq:=hltq _ _ (Hp.get_eq _ _ _);clear hltq;try refine zU ?_)|(refine LS.nilQ ?_;try with_reducible intro nq hnq;try refine zU ?_))
  refine zI ?_ ?_<;>intro h1
  · (repeat first|refine zG ?_|(refine LS.nilO ?_;intro nq hnq hltq;try refine zU ?_)|(refine MS.new ?_;intro bq hbq hbqf;try refine zU ?_)|(refine MS.nil ?_;intro nq hnq hltq;have hlq:=hltq _ _ (Hp.get_eq _ _ _);clear hltq;try refine zU ?_)|(refine LS.nilQ ?_;try with_reducible intro nq hnq;try refine zU ?_))
    refine CS.iter 8 (fun j => [(10, i64 j), (4, i64 i), (7, i64 i), (0, ptr b o), (2, ptr n 0), (3, ptr (n + 1) 0)])
      (fun j => (n + 1, ⟨64, bys (cellsTo (trn s) (8 * i + j)), 29⟩) :: (n, ⟨64, bys (fun _ => 0), 29⟩) :: H) (fun _ => True) (by (repeat first | exact trivial | refine And.intro rfl ?_)) (Drops.refl _ _) trivial ?_
    intro j n2 hj hn2 _
    (repeat first|refine zG ?_|(refine LS.nilO ?_;intro nq hnq hltq;try refine zU ?_)|(refine MS.new ?_;intro bq hbq hbqf;try refine zU ?_)|(refine MS.nil ?_;intro nq hnq hltq;have hlq:=hltq _ _ (Hp.get_eq _ _ _);clear hltq;try refine zU ?_)|(refine LS.nilQ ?_;try with_reducible intro nq hnq;try refine zU ?_))
    refine zI ?_ ?_<;>intro h2
    · have he : s (8 * j + i) = trn s (8 * i + j) := by unfold trn; rw [show (8 * i + j) % 8 = j by omega, show (8 * i + j) / 8 = i by omega]
      (repeat first|refine zG ?_|(refine LS.nilO ?_;intro nq hnq hltq;try refine zU ?_)|(refine MS.new ?_;intro bq hbq hbqf;try refine zU ?_)|(refine MS.nil ?_;intro nq hnq hltq;have hlq:=hltq _ _ (Hp.get_eq _ _ _);clear hltq;try refine zU ?_)|(refine LS.nilQ ?_;try with_reducible intro nq hnq;try refine zU ?_))
      exact ⟨by omega, by (repeat first | exact trivial | refine And.intro rfl ?_), Drops.keepc rfl rfl (fun q hq => by rw [he]; exact cellsTo_step _ _ q) (Drops.refl _ _), trivial⟩
    · have : j = 8 := by omega
      subst this
      (repeat first|refine zG ?_|(refine LS.nilO ?_;intro nq hnq hltq;try refine zU ?_)|(refine MS.new ?_;intro bq hbq hbqf;try refine zU ?_)|(refine MS.nil ?_;intro nq hnq hltq;have hlq:=hltq _ _ (Hp.get_eq _ _ _);clear hltq;try refine zU ?_)|(refine LS.nilQ ?_;try with_reducible intro nq hnq;try refine zU ?_))
      exact ⟨by omega, by (repeat first | exact trivial | refine And.intro rfl ?_), Drops.refl _ _, trivial⟩
  · have : i = 8 := by omega
    subst this
    (repeat first|refine zG ?_|(refine LS.nilO ?_;intro nq hnq hltq;try refine zU ?_)|(refine MS.new ?_;intro bq hbq hbqf;try refine zU ?_)|(refine MS.nil ?_;intro nq hnq hltq;have hlq:=hltq _ _ (Hp.get_eq _ _ _);clear hltq;try refine zU ?_)|(refine LS.nilQ ?_;try with_reducible intro nq hnq;try refine zU ?_))
    exact ⟨.arr 64 (bys (trn s)), H, conc_arr (fun q hq => by simp only [Nat.zero_add, bys, cellsTo]; rw [if_pos (by omega)]), by exact zD, rfl, rfl⟩
theorem impl_unlessB (b : Bool) (k : Int) (H : Hp) (n : Nat) :
    FnS Tryz.prog 40 [bl b, i64 k] H n (fun r H' _ => r = i64 (if b = true then 0 else k) ∧ H' = H) := by
  refine FnS.of_body Tryz.func40 tr40 (by simp) (fun hf => ?_)
  dsimp only [argEnv]
  unfold ir40
  cases b
  · (repeat first|refine zG ?_|(refine LS.nilO ?_;intro nq hnq hltq;try refine zU ?_)|(refine MS.new ?_;intro bq hbq hbqf;try refine zU ?_)|(refine MS.nil ?_;intro nq hnq hltq;have hlq:=hltq _ _ (Hp.get_eq _ _ _);clear hltq;try refine zU ?_)|(refine LS.nilQ ?_;try with_reducible intro nq hnq;try refine zU ?_))
    exact ⟨_, H, rfl, by exact zD, rfl, rfl⟩
  · (repeat first|refine zG ?_|(refine LS.nilO ?_;intro nq hnq hltq;try refine zU ?_)|(refine MS.new ?_;intro bq hbq hbqf;try refine zU ?_)|(refine MS.nil ?_;intro nq hnq hltq;have hlq:=hltq _ _ (Hp.get_eq _ _ _);clear hltq;try refine zU ?_)|(refine LS.nilQ ?_;try with_reducible intro nq hnq;try refine zU ?_))
    exact ⟨_, H, rfl, by exact zD, rfl, rfl⟩
end Go.Proofs.YtbknndbfbebkdabGreatR
