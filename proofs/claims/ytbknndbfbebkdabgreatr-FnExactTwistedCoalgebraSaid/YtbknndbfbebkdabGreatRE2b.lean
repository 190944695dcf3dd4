/- Contracts of the program's functions. -/
import Derived.Test.YtbknndbfbebkdabGreatRR
import Derived.Test.YtbknndbfbebkdabGreatRLW
import Derived.Test.YtbknndbfbebkdabGreatRE1a
import Derived.Test.YtbknndbfbebkdabGreatRE1b
import Derived.Test.YtbknndbfbebkdabGreatRE1c
namespace Go.Proofs.YtbknndbfbebkdabGreatR
open Go.V
set_option linter.unusedSimpArgs false
set_option linter.unusedVariables false
set_option maxHeartbeats 4000000
/-- spec.l01Table -/
def ir91 : Cd := (.seq (.reg [⟨some 5,none,.box 33 (.t 2)⟩,⟨some 6,none,.mov (.c (.bool false))⟩]) (.seq (.seq (.reg [⟨some 7,none,.mov (.c (.int .i64 0))⟩]) (.block 0 (.loop (.seq (.seq (.reg [⟨some 8,none,.mov (.t 7)⟩,⟨some 9,none,.bin .lss (.t 8) (.c (.int .i64 8))⟩]) (.cond (.t 9) .skip (.exit 0))) (.seq (.block 1 (.seq (.reg [⟨some 12,none,.mov (.t 0)⟩,⟨some 13,none,.mov (.t 1)⟩,⟨some 14,none,.mov (.t 7)⟩,⟨some 15,none,.ia 8 64 (.t 5) (.t 14)⟩,⟨some 16,none,.ld (some 64) (.t 15)⟩,⟨some 17,none,.call 45 [(.t 12),(.t 13),(.t 16)]⟩,⟨some 18,none,.un .not (.t 17)⟩,⟨some 19,none,.mov (.t 18)⟩,⟨some 20,(some (19,false)),.mov (.t 7)⟩,⟨some 21,(some (19,false)),.mov (.t 1)⟩,⟨some 22,(some (19,false)),.bin .geq (.t 20) (.t 21)⟩,⟨some 23,(some (19,false)),.mov (.t 22)⟩,⟨some 24,(some (23,true)),.mov (.t 7)⟩,⟨some 25,(some (23,true)),.ia 8 64 (.t 5) (.t 24)⟩,⟨some 26,(some (23,true)),.ld (some 64) (.t 25)⟩,⟨some 27,(some (23,true)),.build 64 [(64,(.int .u8 0))] []⟩,⟨some 28,(some (23,true)),.eqa true 64 (.t 26) (.t 27)⟩,⟨some 29,(some (19,false)),.pick (.t 23) (.t 28) (.c (.bool false))⟩,⟨some 30,none,.pick (.t 19) (.c (.bool true)) (.t 29)⟩]) (.cond (.t 30) (.seq (.reg [⟨some 6,none,.mov (.c (.bool false))⟩]) .ret) .skip))) (.reg [⟨some 10,none,.mov (.t 7)⟩,⟨some 11,none,.bin .add (.t 10) (.c (.int .i64 1))⟩,⟨some 7,none,.mov (.t 11)⟩])))))) (.seq (.reg [⟨some 6,none,.mov (.c (.bool true))⟩]) .ret)))
set_option maxRecDepth 100000 in
theorem tr91 : trFn Tryz.prog Tryz.f91 = some (31, ir91, [.tmp 6]) := by kernel_rfl
theorem spec_l01Table (p n' : Int) (t : Nat → Int) (H : Hp) (n : Nat) (ht : isBy 512 t) :
    FnS Tryz.prog 91 [i64 p, i64 n', .arr 512 (bys t)] H n (fun r H' _ => r = bl (tb (isTab p n' t)) ∧ H' = H) := by
  have hk : ∀ i, i < 512 → bys t (0 + i) = .int .u8 (t i) := fun i _ => by rw [Nat.zero_add]; rfl
  refine FnS.of_body Tryz.func91 tr91 (by simp) (fun hf => ?_)
  dsimp only [argEnv]
  unfold ir91
  (repeat first|refine zG ?_|(refine LS.nilO ?_;intro nq hnq hltq;try refine zU ?_)|(refine MS.new ?_;intro bq hbq hbqf;try refine zU ?_)|(refine MS.nil ?_;intro nq hnq hltq;have hlq:=hltq _ _ (Hp.get_eq _ _ _);clear hltq;try refine zU ?_)|(refine LS.nilQ ?_;try with_reducible intro nq hnq;try refine zU ?_))
  refine CS.iter 8 (fun i => [(7, i64 i), (5, ptr n 0), (0, i64 p), (1, i64 n')]) (fun _ => (n, ⟨512, bys t, 33⟩) :: H) (fun i => ∀ j : Nat, j < i → isLin p n' n' (fun x => t (64 * j + x)) ∧ (n' ≤ j → ∀ x, x < 64 → t (64 * j + x) = 0)) (by (repeat first | exact trivial | refine And.intro rfl ?_)) (Drops.refl _ _) (fun j hj => by omega) ?_
  intro i n1 hi hn hJ
  (repeat first|refine zG ?_|(refine LS.nilO ?_;intro nq hnq hltq;try refine zU ?_)|(refine MS.new ?_;intro bq hbq hbqf;try refine zU ?_)|(refine MS.nil ?_;intro nq hnq hltq;have hlq:=hltq _ _ (Hp.get_eq _ _ _);clear hltq;try refine zU ?_)|(refine LS.nilQ ?_;try with_reducible intro nq hnq;try refine zU ?_))
  refine zI ?_ ?_<;>intro h1
  · (repeat first|refine zG ?_|(refine LS.nilO ?_;intro nq hnq hltq;try refine zU ?_)|(refine MS.new ?_;intro bq hbq hbqf;try refine zU ?_)|(refine MS.nil ?_;intro nq hnq hltq;have hlq:=hltq _ _ (Hp.get_eq _ _ _);clear hltq;try refine zU ?_)|(refine LS.nilQ ?_;try with_reducible intro nq hnq;try refine zU ?_))
    refine RS.call rfl ((spec_l01Linear p n' (fun x => t (64 * i + x)) _ _ (fun x hx => ht _ (by omega))).mono ?_)
    rintro r H' n2 hn2 ⟨rfl, rfl⟩
    (repeat first|refine zG ?_|(refine LS.nilO ?_;intro nq hnq hltq;try refine zU ?_)|(refine MS.new ?_;intro bq hbq hbqf;try refine zU ?_)|(refine MS.nil ?_;intro nq hnq hltq;have hlq:=hltq _ _ (Hp.get_eq _ _ _);clear hltq;try refine zU ?_)|(refine LS.nilQ ?_;try with_reducible intro nq hnq;try refine zU ?_))
    refine RS.sp (t := 19) rfl (fun h2 => ?_) (fun h2 => ?_) <;> (try simp only [tb_eq, tb_eqF, decide_eq_true_eq, decide_eq_false_iff_not, beq_iff_eq, bne_iff_ne, ne_eq, Decidable.not_not, beq_eq_false_iff_ne, bne_eq_false_iff_eq, Bool.not_eq_true', Bool.not_eq_false', Bool.not_eq_eq_eq_not, Bool.not_true, Bool.not_false] at h2)
    · (repeat first|refine zG ?_|(refine LS.nilO ?_;intro nq hnq hltq;try refine zU ?_)|(refine MS.new ?_;intro bq hbq hbqf;try refine zU ?_)|(refine MS.nil ?_;intro nq hnq hltq;have hlq:=hltq _ _ (Hp.get_eq _ _ _);clear hltq;try refine zU ?_)|(refine LS.nilQ ?_;try with_reducible intro nq hnq;try refine zU ?_))
      exact ⟨_, H, rfl, by exact zD, by rw [tb_false (fun h => h2 (h i (by omega)).1)], rfl⟩
    · (repeat first|refine zG ?_|(refine LS.nilO ?_;intro nq hnq hltq;try refine zU ?_)|(refine MS.new ?_;intro bq hbq hbqf;try refine zU ?_)|(refine MS.nil ?_;intro nq hnq hltq;have hlq:=hltq _ _ (Hp.get_eq _ _ _);clear hltq;try refine zU ?_)|(refine LS.nilQ ?_;try with_reducible intro nq hnq;try refine zU ?_))
      refine RS.sp (t := 23) rfl (fun h3 => ?_) (fun h3 => ?_) <;> (try simp only [tb_eq, tb_eqF, decide_eq_true_eq, decide_eq_false_iff_not, beq_iff_eq, bne_iff_ne, ne_eq, Decidable.not_not, beq_eq_false_iff_ne, bne_eq_false_iff_eq, Bool.not_eq_true', Bool.not_eq_false', Bool.not_eq_eq_eq_not, Bool.not_true, Bool.not_false] at h3)
      · (repeat first|refine zG ?_|(refine LS.nilO ?_;intro nq hnq hltq;try refine zU ?_)|(refine MS.new ?_;intro bq hbq hbqf;try refine zU ?_)|(refine MS.nil ?_;intro nq hnq hltq;have hlq:=hltq _ _ (Hp.get_eq _ _ _);clear hltq;try refine zU ?_)|(refine LS.nilQ ?_;try with_reducible intro nq hnq;try refine zU ?_))
        refine zI ?_ ?_<;>intro h4
        · (repeat first|refine zG ?_|(refine LS.nilO ?_;intro nq hnq hltq;try refine zU ?_)|(refine MS.new ?_;intro bq hbq hbqf;try refine zU ?_)|(refine MS.nil ?_;intro nq hnq hltq;have hlq:=hltq _ _ (Hp.get_eq _ _ _);clear hltq;try refine zU ?_)|(refine LS.nilQ ?_;try with_reducible intro nq hnq;try refine zU ?_))
          exact ⟨_, H, rfl, by exact zD, by rw [tb_false (fun h => h4 (fun x hx => (h i (by omega)).2 (by omega) x hx))], rfl⟩
        · (repeat first|refine zG ?_|(refine LS.nilO ?_;intro nq hnq hltq;try refine zU ?_)|(refine MS.new ?_;intro bq hbq hbqf;try refine zU ?_)|(refine MS.nil ?_;intro nq hnq hltq;have hlq:=hltq _ _ (Hp.get_eq _ _ _);clear hltq;try refine zU ?_)|(refine LS.nilQ ?_;try with_reducible intro nq hnq;try refine zU ?_))
          refine ⟨by omega, by (repeat first | exact trivial | refine And.intro rfl ?_), by exact zD, fun j hj => ?_⟩
          by_cases e : j < i
          · exact hJ j e
          · have : j = i := by omega
            subst this; exact ⟨h2, fun _ => h4⟩
      · (repeat first|refine zG ?_|(refine LS.nilO ?_;intro nq hnq hltq;try refine zU ?_)|(refine MS.new ?_;intro bq hbq hbqf;try refine zU ?_)|(refine MS.nil ?_;intro nq hnq hltq;have hlq:=hltq _ _ (Hp.get_eq _ _ _);clear hltq;try refine zU ?_)|(refine LS.nilQ ?_;try with_reducible intro nq hnq;try refine zU ?_))
        refine ⟨by omega, by (repeat first | exact trivial | refine And.intro rfl ?_), by exact zD, fun j hj => ?_⟩
        by_cases e : j < i
        · exact hJ j e
        · have : j = i := by omega
          subst this; exact ⟨h2, fun h => by omega⟩
  · (repeat first|refine zG ?_|(refine LS.nilO ?_;intro nq hnq hltq;try refine zU ?_)|(refine MS.new ?_;intro bq hbq hbqf;try refine zU ?_)|(refine MS.nil ?_;intro nq hnq hltq;have hlq:=hltq _ _ (Hp.get_eq _ _ _);clear hltq;try refine zU ?_)|(refine LS.nilQ ?_;try with_reducible intro nq hnq;try refine zU ?_))
    exact ⟨_, H, rfl, by exact zD, by rw [tb_true (show isTab p n' t from fun j hj => hJ j (by omega))], rfl⟩
/-- (impl.field).times -/
def ir122 : Cd := (.seq (.reg [⟨some 3,none,.box 85 (.t 0)⟩,⟨some 5,none,.box 27 (.t 2)⟩,⟨some 6,none,.new 27 [(8,(.int .u8 0))]⟩]) (.seq (.reg [⟨some 8,none,.build 8 [(8,(.int .u8 0))] []⟩,⟨some 7,none,.new 27 [(8,(.int .u8 0))]⟩,⟨none,none,.st 8 (.t 7) (.t 8)⟩]) (.seq (.reg [⟨some 9,none,.ld (some 2) (.t 3)⟩,⟨some 10,none,.mov (.t 1)⟩,⟨some 11,none,.ld (some 8) (.t 5)⟩,⟨some 12,none,.call 50 [(.t 9),(.t 7),(.t 10),(.t 11)]⟩]) (.seq (.reg [⟨some 13,none,.ld (some 8) (.t 7)⟩,⟨none,none,.st 8 (.t 6) (.t 13)⟩]) .ret))))
set_option maxRecDepth 100000 in
theorem tr122 : trFn Tryz.prog Tryz.f122 = some (14, ir122, [.cell (some 8) 6]) := by kernel_rfl
theorem field_times (p n' k : Int) (w : Nat → Int) (H : Hp) (n : Nat) (hp : 2 ≤ p ∧ p ≤ 31) (hw : isBy 8 w) (hk : 0 ≤ k ∧ k ≤ 100000) :
    FnS Tryz.prog 122 [fld p n', i64 k, .arr 8 (bys w)] H n (fun r H' _ => r = .arr 8 (bys (pl p (fun _ => 0) k w)) ∧ H' = H) := by
  refine FnS.of_body Tryz.func122 tr122 (by simp) (fun hf => ?_)
  dsimp only [argEnv]
  unfold ir122
  (repeat first|refine zG ?_|(refine LS.nilO ?_;intro nq hnq hltq;try refine zU ?_)|(refine MS.new ?_;intro bq hbq hbqf;try refine zU ?_)|(refine MS.nil ?_;intro nq hnq hltq;have hlq:=hltq _ _ (Hp.get_eq _ _ _);clear hltq;try refine zU ?_)|(refine LS.nilQ ?_;try with_reducible intro nq hnq;try refine zU ?_))
  refine RS.call rfl ((field_plus p n' k (fun _ => 0) w (n + 3) 0 ⟨8, fun _ => .int .u8 0, 27⟩ _ _ hp (by exact zH) (by simp) (fun _ _ => rfl) (isRes_zero hp.1 8) hw hk).mono ?_)
  rintro r H' n2 hn2 ⟨rfl, rfl⟩
  simp (disch := omega) only [Hp.set_eq, Hp.set_ne]
  (repeat first|refine zG ?_|(refine LS.nilO ?_;intro nq hnq hltq;try refine zU ?_)|(refine MS.new ?_;intro bq hbq hbqf;try refine zU ?_)|(refine MS.nil ?_;intro nq hnq hltq;have hlq:=hltq _ _ (Hp.get_eq _ _ _);clear hltq;try refine zU ?_)|(refine LS.nilQ ?_;try with_reducible intro nq hnq;try refine zU ?_))
  exact ⟨.arr 8 (bys (pl p (fun _ => 0) k w)), H, conc_arr (fun q hq => by simp only [Nat.zero_add]; exact splice_all _ _ _ _ hq), by exact zD, rfl, rfl⟩
/-- spec.l02Counits -/
def ir136 : Cd := (.seq (.reg [⟨some 1,none,.box 46 (.t 0)⟩,⟨some 2,none,.mov (.c (.bool false))⟩]) (.seq (.seq (.reg [⟨some 3,none,.mov (.c (.int .i64 0))⟩]) (.block 0 (.loop (.seq (.seq (.reg [⟨some 9,none,.mov (.t 3)⟩,⟨some 10,none,.fa 1 (.t 1)⟩,⟨some 11,none,.ld none (.t 10)⟩,⟨some 12,none,.bin .lss (.t 9) (.t 11)⟩]) (.cond (.t 12) .skip (.exit 0))) (.seq (.block 1 (.seq (.reg [⟨some 15,none,.build 8 [(8,(.int .u8 0))] []⟩,⟨some 16,none,.build 8 [(8,(.int .u8 0))] []⟩,⟨some 4,none,.new 27 [(8,(.int .u8 0))]⟩,⟨some 5,none,.new 27 [(8,(.int .u8 0))]⟩,⟨none,none,.st 8 (.t 4) (.t 15)⟩,⟨none,none,.st 8 (.t 5) (.t 16)⟩]) (.seq (.seq (.reg [⟨some 6,none,.mov (.c (.int .i64 0))⟩]) (.block 2 (.loop (.seq (.seq (.reg [⟨some 17,none,.mov (.t 6)⟩,⟨some 18,none,.fa 1 (.t 1)⟩,⟨some 19,none,.ld none (.t 18)⟩,⟨some 20,none,.bin .lss (.t 17) (.t 19)⟩]) (.cond (.t 20) .skip (.exit 2))) (.seq (.block 3 (.seq (.drw true [14,15] [⟨some 23,none,.fa 0 (.t 1)⟩,⟨some 24,none,.ld none (.t 23)⟩,⟨some 25,none,.ld (some 8) (.t 4)⟩,⟨some 26,none,.mov (.t 3)⟩,⟨some 27,none,.mov (.t 6)⟩,⟨some 28,none,.fa 10 (.t 1)⟩,⟨some 29,none,.ia 8 64 (.t 28) (.t 26)⟩,⟨some 30,none,.ia 8 8 (.t 29) (.t 27)⟩,⟨some 31,none,.ld (some 8) (.t 30)⟩,⟨some 32,none,.mov (.t 6)⟩,⟨some 33,none,.fa 2 (.t 1)⟩,⟨some 34,none,.ia 8 1 (.t 33) (.t 32)⟩,⟨some 35,none,.ld none (.t 34)⟩,⟨some 36,none,.cv .i64 (.t 35)⟩,⟨some 37,none,.call 47 [(.t 24),(.t 25),(.t 31),(.t 36)]⟩,⟨none,none,.st 8 (.t 4) (.t 37)⟩]) (.seq (.reg [⟨some 7,none,.mov (.c (.int .i64 0))⟩]) (.seq (.seq (.reg [⟨some 8,none,.mov (.c (.int .i64 0))⟩]) (.block 4 (.loop (.seq (.seq (.reg [⟨some 38,none,.mov (.t 8)⟩,⟨some 39,none,.fa 1 (.t 1)⟩,⟨some 40,none,.ld none (.t 39)⟩,⟨some 41,none,.bin .lss (.t 38) (.t 40)⟩]) (.cond (.t 41) .skip (.exit 4))) (.seq (.block 5 (.drw true [] [⟨some 44,none,.mov (.t 7)⟩,⟨some 45,none,.mov (.t 8)⟩,⟨some 46,none,.fa 2 (.t 1)⟩,⟨some 47,none,.ia 8 1 (.t 46) (.t 45)⟩,⟨some 48,none,.ld none (.t 47)⟩,⟨some 49,none,.cv .i64 (.t 48)⟩,⟨some 50,none,.mov (.t 3)⟩,⟨some 51,none,.mov (.t 6)⟩,⟨some 52,none,.mov (.t 8)⟩,⟨some 53,none,.fa 10 (.t 1)⟩,⟨some 54,none,.ia 8 64 (.t 53) (.t 50)⟩,⟨some 55,none,.ia 8 8 (.t 54) (.t 51)⟩,⟨some 56,none,.ia 8 1 (.t 55) (.t 52)⟩,⟨some 57,none,.ld none (.t 56)⟩,⟨some 58,none,.cv .i64 (.t 57)⟩,⟨some 59,none,.bin .mul (.t 49) (.t 58)⟩,⟨some 60,none,.bin .add (.t 44) (.t 59)⟩,⟨some 7,none,.mov (.t 60)⟩])) (.reg [⟨some 42,none,.mov (.t 8)⟩,⟨some 43,none,.bin .add (.t 42) (.c (.int .i64 1))⟩,⟨some 8,none,.mov (.t 43)⟩])))))) (.reg [⟨some 61,none,.mov (.t 6)⟩,⟨some 62,none,.fa 0 (.t 1)⟩,⟨some 63,none,.ld none (.t 62)⟩,⟨some 64,none,.mov (.t 7)⟩,⟨some 65,none,.call 77 [(.t 63),(.t 64)]⟩,⟨some 66,none,.ia 8 1 (.t 5) (.t 61)⟩,⟨none,none,.st 1 (.t 66) (.t 65)⟩]))))) (.reg [⟨some 21,none,.mov (.t 6)⟩,⟨some 22,none,.bin .add (.t 21) (.c (.int .i64 1))⟩,⟨some 6,none,.mov (.t 22)⟩])))))) (.seq (.drw true [] [⟨some 67,none,.ld (some 8) (.t 4)⟩,⟨some 68,none,.mov (.t 3)⟩,⟨some 69,none,.call 31 [(.t 68)]⟩,⟨some 70,none,.eqa true 8 (.t 67) (.t 69)⟩,⟨some 71,none,.mov (.t 70)⟩,⟨some 72,(some (71,false)),.ld (some 8) (.t 5)⟩,⟨some 73,(some (71,false)),.mov (.t 3)⟩,⟨some 74,(some (71,false)),.call 31 [(.t 73)]⟩,⟨some 75,(some (71,false)),.eqa true 8 (.t 72) (.t 74)⟩,⟨some 76,none,.pick (.t 71) (.c (.bool true)) (.t 75)⟩]) (.cond (.t 76) (.seq (.reg [⟨some 2,none,.mov (.c (.bool false))⟩]) .ret) .skip))))) (.reg [⟨some 13,none,.mov (.t 3)⟩,⟨some 14,none,.bin .add (.t 13) (.c (.int .i64 1))⟩,⟨some 3,none,.mov (.t 14)⟩])))))) (.seq (.reg [⟨some 2,none,.mov (.c (.bool true))⟩]) .ret)))
set_option maxRecDepth 100000 in
theorem tr136 : trFn Tryz.prog Tryz.f136 = some (77, ir136, [.tmp 2]) := by kernel_rfl
theorem spec_l02Counits (p : Int) (a : Nat) (e c : Nat → Int) (K : Nat → SV) (H : Hp) (n : Nat) (hp : 2 ≤ p ∧ p ≤ 31) (ha : a ≤ 8)
    (h0 : K 0 = .int .i64 p) (h1 : K 1 = .int .i64 a) (hE : ∀ q, q < 8 → K (2 + q) = .int .u8 (e q)) (hK : ∀ q, q < 512 → K (10 + q) = .int .u8 (c q)) (he : isBy 8 e) (hc : isBy 512 c) (hz : vz a e) :
    FnS Tryz.prog 136 [.arr 522 K] H n (fun r H' _ => r = bl (tb (counits p a e c)) ∧ H' = H) := by
  refine FnS.of_body Tryz.func136 tr136 (by simp) (fun hf => ?_)
  dsimp only [argEnv]
  unfold ir136
  (repeat first|refine zG ?_|(refine LS.nilO ?_;intro nq hnq hltq;try refine zU ?_)|(refine MS.new ?_;intro bq hbq hbqf;try refine zU ?_)|(refine MS.nil ?_;intro nq hnq hltq;have hlq:=hltq _ _ (Hp.get_eq _ _ _);clear hltq;try refine zU ?_)|(refine LS.nilQ ?_;try with_reducible intro nq hnq;try refine zU ?_))
  refine CS.iter a (fun i => [(3, i64 i), (1, ptr n 0)]) (fun _ => (n, ⟨522, K, 46⟩) :: H)
    (fun i => ∀ i' : Nat, i' < i → (∀ q, q < 8 → coL p e c i' a q = bas i' q) ∧ (∀ q, q < 8 → coR p e c i' a q = bas i' q)) (by (repeat first | exact trivial | refine And.intro rfl ?_)) (by exact zD) (fun _ h => by omega) ?_
  intro i n3 hi hn hJ
  (repeat first|refine zG ?_|(refine LS.nilO ?_;intro nq hnq hltq;try refine zU ?_)|(refine MS.new ?_;intro bq hbq hbqf;try refine zU ?_)|(refine MS.nil ?_;intro nq hnq hltq;have hlq:=hltq _ _ (Hp.get_eq _ _ _);clear hltq;try refine zU ?_)|(refine LS.nilQ ?_;try with_reducible intro nq hnq;try refine zU ?_))
  refine zI ?_ ?_<;>intro h2
  · (repeat first|refine zG ?_|(refine LS.nilO ?_;intro nq hnq hltq;try refine zU ?_)|(refine MS.new ?_;intro bq hbq hbqf;try refine zU ?_)|(refine MS.nil ?_;intro nq hnq hltq;have hlq:=hltq _ _ (Hp.get_eq _ _ _);clear hltq;try refine zU ?_)|(refine LS.nilQ ?_;try with_reducible intro nq hnq;try refine zU ?_))
    refine CS.iter a (fun j => [(6, i64 j), (4, ptr n3 0), (5, ptr (n3 + 1) 0), (3, i64 i), (1, ptr n 0)])
      (fun j => (n3 + 1, ⟨8, bys (coR p e c i j), 27⟩) :: (n3, ⟨8, bys (coL p e c i j), 27⟩) :: (n, ⟨522, K, 46⟩) :: H) (fun _ => True) (by (repeat first | exact trivial | refine And.intro rfl ?_))
      (Drops.keepc rfl rfl (fun _ _ => by rw [coR_zero]; rfl) (Drops.keepc rfl rfl (fun _ _ => by rw [coL_zero]; rfl) (Drops.refl _ _))) trivial ?_
    intro j n4 hj hn4 _
    (repeat first|refine zG ?_|(refine LS.nilO ?_;intro nq hnq hltq;try refine zU ?_)|(refine MS.new ?_;intro bq hbq hbqf;try refine zU ?_)|(refine MS.nil ?_;intro nq hnq hltq;have hlq:=hltq _ _ (Hp.get_eq _ _ _);clear hltq;try refine zU ?_)|(refine LS.nilQ ?_;try with_reducible intro nq hnq;try refine zU ?_))
    refine zI ?_ ?_<;>intro h3
    · have hej := he j (by omega)
      (repeat first|refine zG ?_|(refine LS.nilO ?_;intro nq hnq hltq;try refine zU ?_)|(refine MS.new ?_;intro bq hbq hbqf;try refine zU ?_)|(refine MS.nil ?_;intro nq hnq hltq;have hlq:=hltq _ _ (Hp.get_eq _ _ _);clear hltq;try refine zU ?_)|(refine LS.nilQ ?_;try with_reducible intro nq hnq;try refine zU ?_))
      refine RS.call rfl ((spec_l01Add p (e j) (coL p e c i j) (fun x => c (64 * i + 8 * j + x)) _ _ hp (fun q hq => by have := coL_res hp.1 e c i j 8 q hq; omega) (fun x hx => hc _ (by omega)) (by omega)).mono ?_)
      rintro r H n5 hn5 ⟨rfl, rfl⟩
      (repeat first|refine zG ?_|(refine LS.nilO ?_;intro nq hnq hltq;try refine zU ?_)|(refine MS.new ?_;intro bq hbq hbqf;try refine zU ?_)|(refine MS.nil ?_;intro nq hnq hltq;have hlq:=hltq _ _ (Hp.get_eq _ _ _);clear hltq;try refine zU ?_)|(refine LS.nilQ ?_;try with_reducible intro nq hnq;try refine zU ?_))
      refine CS.iter a (fun k => [(8, i64 k), (7, i64 (sm (fun y => e y * c (64 * i + 8 * j + y)) k)), (6, i64 j), (4, ptr n3 0), (5, ptr (n3 + 1) 0), (3, i64 i), (1, ptr n 0)])
        (fun _ => (n3 + 1, ⟨8, bys (coR p e c i j), 27⟩) :: (n3, ⟨8, bys (coL p e c i (j + 1)), 27⟩) :: (n, ⟨522, K, 46⟩) :: H) (fun _ => True) (by (repeat first | exact trivial | refine And.intro rfl ?_))
        (Drops.keepc rfl rfl (fun _ _ => rfl) (Drops.keepc rfl rfl (fun q hq => by rw [coL_step]) (Drops.refl _ _))) trivial ?_
      intro k n6 hk hn6 _
      have hs := sm_b (f := fun y => e y * c (64 * i + 8 * j + y)) (B := 65025) (n := k) (fun q hq => by
        have h1 := he q (by omega)
        have h2 := hc (64 * i + 8 * j + q) (by omega)
        exact mulB h1.1 h1.2 h2.1 h2.2)
      (repeat first|refine zG ?_|(refine LS.nilO ?_;intro nq hnq hltq;try refine zU ?_)|(refine MS.new ?_;intro bq hbq hbqf;try refine zU ?_)|(refine MS.nil ?_;intro nq hnq hltq;have hlq:=hltq _ _ (Hp.get_eq _ _ _);clear hltq;try refine zU ?_)|(refine LS.nilQ ?_;try with_reducible intro nq hnq;try refine zU ?_))
      refine zI ?_ ?_<;>intro h4
      · have hek := he k (by omega)
        have hck := hc (64 * i + 8 * j + k) (by omega)
        have hm := mulB hek.1 hek.2 hck.1 hck.2
        (repeat first|refine zG ?_|(refine LS.nilO ?_;intro nq hnq hltq;try refine zU ?_)|(refine MS.new ?_;intro bq hbq hbqf;try refine zU ?_)|(refine MS.nil ?_;intro nq hnq hltq;have hlq:=hltq _ _ (Hp.get_eq _ _ _);clear hltq;try refine zU ?_)|(refine LS.nilQ ?_;try with_reducible intro nq hnq;try refine zU ?_))
        exact ⟨by omega, by (repeat first | exact trivial | refine And.intro rfl ?_), Drops.refl _ _, trivial⟩
      · have : k = a := by omega
        subst this
        (repeat first|refine zG ?_|(refine LS.nilO ?_;intro nq hnq hltq;try refine zU ?_)|(refine MS.new ?_;intro bq hbq hbqf;try refine zU ?_)|(refine MS.nil ?_;intro nq hnq hltq;have hlq:=hltq _ _ (Hp.get_eq _ _ _);clear hltq;try refine zU ?_)|(refine LS.nilQ ?_;try with_reducible intro nq hnq;try refine zU ?_))
        refine RS.call rfl ((spec_l01Mod p (sm (fun y => e y * c (64 * i + 8 * j + y)) k) _ _ hp.1 hp.2 (by omega)).mono ?_)
        rintro r H n7 hn7 ⟨rfl, rfl⟩
        (repeat first|refine zG ?_|(refine LS.nilO ?_;intro nq hnq hltq;try refine zU ?_)|(refine MS.new ?_;intro bq hbq hbqf;try refine zU ?_)|(refine MS.nil ?_;intro nq hnq hltq;have hlq:=hltq _ _ (Hp.get_eq _ _ _);clear hltq;try refine zU ?_)|(refine LS.nilQ ?_;try with_reducible intro nq hnq;try refine zU ?_))
        refine ⟨by omega, by (repeat first | exact trivial | refine And.intro rfl ?_), Drops.keepc rfl rfl (fun q hq => ?_) (Drops.refl _ _), trivial⟩
        simp only [put1, bys]
        rw [← coR_step, ← dotk_end (show k ≤ 8 by omega) (.inl hz)]
        split <;> rfl
    · have : j = a := by omega
      subst this
      (repeat first|refine zG ?_|(refine LS.nilO ?_;intro nq hnq hltq;try refine zU ?_)|(refine MS.new ?_;intro bq hbq hbqf;try refine zU ?_)|(refine MS.nil ?_;intro nq hnq hltq;have hlq:=hltq _ _ (Hp.get_eq _ _ _);clear hltq;try refine zU ?_)|(refine LS.nilQ ?_;try with_reducible intro nq hnq;try refine zU ?_))
      refine LS.callQ (.arr 8 (bys (bas i))) rfl (fun n' hn' => spec_l01Basis i _ _ (by omega)) ?_
      (repeat first|refine zG ?_|(refine LS.nilO ?_;intro nq hnq hltq;try refine zU ?_)|(refine MS.new ?_;intro bq hbq hbqf;try refine zU ?_)|(refine MS.nil ?_;intro nq hnq hltq;have hlq:=hltq _ _ (Hp.get_eq _ _ _);clear hltq;try refine zU ?_)|(refine LS.nilQ ?_;try with_reducible intro nq hnq;try refine zU ?_))
      refine RS.sp (t := 71) rfl (fun h4 => ?_) (fun h4 => ?_) <;> (try simp only [tb_eq, tb_eqF, decide_eq_true_eq, decide_eq_false_iff_not, beq_iff_eq, bne_iff_ne, ne_eq, Decidable.not_not, beq_eq_false_iff_ne, bne_eq_false_iff_eq, Bool.not_eq_true', Bool.not_eq_false', Bool.not_eq_eq_eq_not, Bool.not_true, Bool.not_false] at h4)
      · (repeat first|refine zG ?_|(refine LS.nilO ?_;intro nq hnq hltq;try refine zU ?_)|(refine MS.new ?_;intro bq hbq hbqf;try refine zU ?_)|(refine MS.nil ?_;intro nq hnq hltq;have hlq:=hltq _ _ (Hp.get_eq _ _ _);clear hltq;try refine zU ?_)|(refine LS.nilQ ?_;try with_reducible intro nq hnq;try refine zU ?_))
        exact ⟨_, H, rfl, by exact zD, by rw [tb_false (fun h => h4 (h i (by omega)).1)], rfl⟩
      · (repeat first|refine zG ?_|(refine LS.nilO ?_;intro nq hnq hltq;try refine zU ?_)|(refine MS.new ?_;intro bq hbq hbqf;try refine zU ?_)|(refine MS.nil ?_;intro nq hnq hltq;have hlq:=hltq _ _ (Hp.get_eq _ _ _);clear hltq;try refine zU ?_)|(refine LS.nilQ ?_;try with_reducible intro nq hnq;try refine zU ?_))
        refine LS.callQ (.arr 8 (bys (bas i))) rfl (fun n' hn' => spec_l01Basis i _ _ (by omega)) ?_
        (repeat first|refine zG ?_|(refine LS.nilO ?_;intro nq hnq hltq;try refine zU ?_)|(refine MS.new ?_;intro bq hbq hbqf;try refine zU ?_)|(refine MS.nil ?_;intro nq hnq hltq;have hlq:=hltq _ _ (Hp.get_eq _ _ _);clear hltq;try refine zU ?_)|(refine LS.nilQ ?_;try with_reducible intro nq hnq;try refine zU ?_))
        refine zI ?_ ?_<;>intro h5
        · (repeat first|refine zG ?_|(refine LS.nilO ?_;intro nq hnq hltq;try refine zU ?_)|(refine MS.new ?_;intro bq hbq hbqf;try refine zU ?_)|(refine MS.nil ?_;intro nq hnq hltq;have hlq:=hltq _ _ (Hp.get_eq _ _ _);clear hltq;try refine zU ?_)|(refine LS.nilQ ?_;try with_reducible intro nq hnq;try refine zU ?_))
          exact ⟨_, H, rfl, by exact zD, by rw [tb_false (fun h => h5 (h i (by omega)).2)], rfl⟩
        · (repeat first|refine zG ?_|(refine LS.nilO ?_;intro nq hnq hltq;try refine zU ?_)|(refine MS.new ?_;intro bq hbq hbqf;try refine zU ?_)|(refine MS.nil ?_;intro nq hnq hltq;have hlq:=hltq _ _ (Hp.get_eq _ _ _);clear hltq;try refine zU ?_)|(refine LS.nilQ ?_;try with_reducible intro nq hnq;try refine zU ?_))
          refine ⟨by omega, by (repeat first | exact trivial | refine And.intro rfl ?_), by exact zD, fun i' hi' => ?_⟩
          by_cases e : i' = i
          · subst e; exact ⟨h4, h5⟩
          · exact hJ i' (by omega)
  · have : i = a := by omega
    subst this
    (repeat first|refine zG ?_|(refine LS.nilO ?_;intro nq hnq hltq;try refine zU ?_)|(refine MS.new ?_;intro bq hbq hbqf;try refine zU ?_)|(refine MS.nil ?_;intro nq hnq hltq;have hlq:=hltq _ _ (Hp.get_eq _ _ _);clear hltq;try refine zU ?_)|(refine LS.nilQ ?_;try with_reducible intro nq hnq;try refine zU ?_))
    exact ⟨_, H, rfl, by exact zD, by rw [tb_true (show counits p i e c from fun i' h => hJ i' h)], rfl⟩
/-- (*impl.Coalgebra).fault -/
def ir127 : Cd := (.seq (.reg [⟨some 2,none,.mov (.c .nils)⟩]) (.seq (.reg [⟨some 9,none,.mov (.t 0)⟩,⟨some 10,none,.ck (.t 9)⟩,⟨some 11,none,.fa 1 (.t 10)⟩,⟨some 12,none,.ld none (.t 11)⟩,⟨some 3,none,.mov (.t 12)⟩]) (.seq (.seq (.reg [⟨some 13,none,.mov (.t 3)⟩,⟨some 14,none,.mov (.t 3)⟩,⟨some 15,none,.bin .mul (.t 13) (.t 14)⟩,⟨some 16,none,.mov (.t 3)⟩,⟨some 17,none,.bin .mul (.t 15) (.t 16)⟩,⟨some 18,none,.mov (.t 3)⟩,⟨some 19,none,.bin .mul (.t 17) (.t 18)⟩,⟨some 20,none,.mov (.c (.int .i64 0))⟩]) (.block 0 (.loop (.seq (.reg [⟨some 21,none,.bin .lss (.t 20) (.t 19)⟩]) (.seq (.cond (.t 21) .skip (.exit 0)) (.seq (.block 1 (.seq (.reg [⟨some 22,none,.mov (.t 20)⟩,⟨some 4,none,.mov (.t 22)⟩]) (.seq (.drw true [] [⟨some 23,none,.mov (.t 4)⟩,⟨some 24,none,.mov (.t 3)⟩,⟨some 25,none,.mov (.t 3)⟩,⟨some 26,none,.bin .mul (.t 24) (.t 25)⟩,⟨some 27,none,.mov (.t 3)⟩,⟨some 28,none,.bin .mul (.t 26) (.t 27)⟩,⟨some 29,none,.bin .quo (.t 23) (.t 28)⟩,⟨some 30,none,.mov (.t 4)⟩,⟨some 31,none,.mov (.t 3)⟩,⟨some 32,none,.mov (.t 3)⟩,⟨some 33,none,.bin .mul (.t 31) (.t 32)⟩,⟨some 34,none,.bin .quo (.t 30) (.t 33)⟩,⟨some 35,none,.mov (.t 3)⟩,⟨some 36,none,.bin .rem (.t 34) (.t 35)⟩,⟨some 37,none,.mov (.t 4)⟩,⟨some 38,none,.mov (.t 3)⟩,⟨some 39,none,.bin .quo (.t 37) (.t 38)⟩,⟨some 40,none,.mov (.t 3)⟩,⟨some 41,none,.bin .rem (.t 39) (.t 40)⟩,⟨some 42,none,.mov (.t 4)⟩,⟨some 43,none,.mov (.t 3)⟩,⟨some 44,none,.bin .rem (.t 42) (.t 43)⟩,⟨some 5,none,.mov (.t 29)⟩,⟨some 6,none,.mov (.t 36)⟩,⟨some 7,none,.mov (.t 41)⟩,⟨some 8,none,.mov (.t 44)⟩]) (.seq (.reg [⟨some 45,none,.mov (.t 0)⟩,⟨some 46,none,.mov (.t 5)⟩,⟨some 47,none,.mov (.t 6)⟩,⟨some 48,none,.mov (.t 7)⟩,⟨some 49,none,.mov (.t 8)⟩,⟨some 50,none,.call 140 [(.t 45),(.t 46),(.t 47),(.t 48),(.t 49)]⟩]) (.cond (.t 50) (.seq (.reg [⟨some 51,none,.mov (.t 5)⟩,⟨some 52,none,.mov (.t 6)⟩,⟨some 53,none,.mov (.t 7)⟩,⟨some 54,none,.mov (.t 8)⟩,⟨some 55,none,.bsl 2 4 1 [(1,(.int .i64 0))] [(0,1,(.t 51)),(1,1,(.t 52)),(2,1,(.t 53)),(3,1,(.t 54))]⟩,⟨some 2,none,.mov (.t 55)⟩]) .ret) .skip))))) (.reg [⟨some 56,none,.bin .add (.t 20) (.c (.int .i64 1))⟩,⟨some 20,none,.mov (.t 56)⟩]))))))) (.seq (.reg [⟨some 2,none,.mov (.c .nils)⟩]) .ret))))
set_option maxRecDepth 100000 in
theorem tr127 : trFn Tryz.prog Tryz.f127 = some (57, ir127, [.tmp 2]) := by kernel_rfl
theorem Coalgebra_fault (p : Int) (a : Nat) (c : Nat → Int) (b : Nat) (K : Blk) (H : Hp) (n : Nat) (hp : 2 ≤ p ∧ p ≤ 31) (ha1 : 1 ≤ a) (ha : a ≤ 8) (hb : H.get b = some K) (hsz : K.size = 522)
    (h0 : K.c 0 = .int .i64 p) (h1 : K.c 1 = .int .i64 a) (hK : ∀ q, q < 512 → K.c (10 + q) = .int .u8 (c q)) (hc : isBy 512 c) :
    FnS Tryz.prog 127 [ptr b 0] H n (fun r H' _ => ((r = .s .nils ∧ coassoc p a c) ∨ ((∃ b o l c, r = .s (.slc b o l c)) ∧ ¬coassoc p a c)) ∧ H' = H) := by
  refine FnS.of_body Tryz.func127 tr127 (by simp) (fun hf => ?_)
  dsimp only [argEnv]
  unfold ir127
  have hbn := getlt hf hb
  obtain ⟨p2, p3, p4⟩ := pow4 a ha1 ha
  (repeat first|refine zG ?_|(refine LS.nilO ?_;intro nq hnq hltq;try refine zU ?_)|(refine MS.new ?_;intro bq hbq hbqf;try refine zU ?_)|(refine MS.nil ?_;intro nq hnq hltq;have hlq:=hltq _ _ (Hp.get_eq _ _ _);clear hltq;try refine zU ?_)|(refine LS.nilQ ?_;try with_reducible intro nq hnq;try refine zU ?_))
  refine CS.iter (a * a * a * a) (fun t => [(20, i64 t), (19, i64 ((a : Int) * a * a * a)), (3, i64 a), (0, ptr b 0)]) (fun _ => H)
    (fun t => ∀ t' : Nat, t' < t → cosum1 p c (t' / (a * a * a)) (t' / (a * a) % a) (t' / a % a) (t' % a) a = cosum2 p c (t' / (a * a * a)) (t' / (a * a) % a) (t' / a % a) (t' % a) a) (by (repeat first | exact trivial | refine And.intro rfl ?_)) (Drops.refl _ _) (fun _ h => by omega) ?_
  intro t n1 ht hn hJ
  have ht' : (t : Int) ≤ (a : Int) * a * a * a := by have := Int.ofNat_le.2 ht; simpa only [Int.natCast_mul] using this
  have q1 : 0 ≤ (t : Int) / ((a : Int) * a) ∧ (t : Int) / ((a : Int) * a) ≤ t := ⟨Int.ediv_nonneg (by omega) (by omega), Int.ediv_le_self _ (by omega)⟩
  have q2 : 0 ≤ (t : Int) / (a : Int) ∧ (t : Int) / (a : Int) ≤ t := ⟨Int.ediv_nonneg (by omega) (by omega), Int.ediv_le_self _ (by omega)⟩
  (repeat first|refine zG ?_|(refine LS.nilO ?_;intro nq hnq hltq;try refine zU ?_)|(refine MS.new ?_;intro bq hbq hbqf;try refine zU ?_)|(refine MS.nil ?_;intro nq hnq hltq;have hlq:=hltq _ _ (Hp.get_eq _ _ _);clear hltq;try refine zU ?_)|(refine LS.nilQ ?_;try with_reducible intro nq hnq;try refine zU ?_))
  refine zI ?_ ?_<;>intro h2
  · have htl : t < a * a * a * a := by have h3 : (t : Int) < ((a * a * a * a : Nat) : Int) := by (simp only [Int.natCast_mul]; exact h2)
                                       exact Int.ofNat_lt.1 h3
    obtain ⟨i1, i2, i3, i4⟩ := idx4 a t ha1 htl
    (repeat first|refine zG ?_|(refine LS.nilO ?_;intro nq hnq hltq;try refine zU ?_)|(refine MS.new ?_;intro bq hbq hbqf;try refine zU ?_)|(refine MS.nil ?_;intro nq hnq hltq;have hlq:=hltq _ _ (Hp.get_eq _ _ _);clear hltq;try refine zU ?_)|(refine LS.nilQ ?_;try with_reducible intro nq hnq;try refine zU ?_))
    refine RS.call rfl ((Coalgebra_isFault p a (t / (a * a * a)) (t / (a * a) % a) (t / a % a) (t % a) _ _ _ _ c b K _ _ hp ha ⟨i1, by push_cast; rfl⟩ ⟨i2, by push_cast; rfl⟩ ⟨i3, by push_cast; rfl⟩ ⟨i4, by push_cast; rfl⟩ (by exact zH) hsz h0 h1 hK hc).mono ?_)
    rintro r H n2 hn2 ⟨rfl, rfl⟩
    (repeat first|refine zG ?_|(refine LS.nilO ?_;intro nq hnq hltq;try refine zU ?_)|(refine MS.new ?_;intro bq hbq hbqf;try refine zU ?_)|(refine MS.nil ?_;intro nq hnq hltq;have hlq:=hltq _ _ (Hp.get_eq _ _ _);clear hltq;try refine zU ?_)|(refine LS.nilQ ?_;try with_reducible intro nq hnq;try refine zU ?_))
    refine zI ?_ ?_<;>intro h3
    · (repeat first|refine zG ?_|(refine LS.nilO ?_;intro nq hnq hltq;try refine zU ?_)|(refine MS.new ?_;intro bq hbq hbqf;try refine zU ?_)|(refine MS.nil ?_;intro nq hnq hltq;have hlq:=hltq _ _ (Hp.get_eq _ _ _);clear hltq;try refine zU ?_)|(refine LS.nilQ ?_;try with_reducible intro nq hnq;try refine zU ?_))
      exact ⟨_, H, rfl, by exact zD, .inr ⟨⟨_, _, _, _, rfl⟩, fun h => h3 (h t htl)⟩, rfl⟩
    · (repeat first|refine zG ?_|(refine LS.nilO ?_;intro nq hnq hltq;try refine zU ?_)|(refine MS.new ?_;intro bq hbq hbqf;try refine zU ?_)|(refine MS.nil ?_;intro nq hnq hltq;have hlq:=hltq _ _ (Hp.get_eq _ _ _);clear hltq;try refine zU ?_)|(refine LS.nilQ ?_;try with_reducible intro nq hnq;try refine zU ?_))
      refine ⟨by omega, by (repeat first | exact trivial | refine And.intro rfl ?_), Drops.refl _ _, fun t' ht' => ?_⟩
      by_cases e : t' = t
      · subst e; exact h3
      · exact hJ t' (by omega)
  · have : t = a * a * a * a := by
      have h3 : ¬(t : Int) < ((a * a * a * a : Nat) : Int) := by (simp only [Int.natCast_mul]; exact h2)
      have : ¬ t < a * a * a * a := fun h => h3 (Int.ofNat_lt.2 h)
      omega
    subst this
    (repeat first|refine zG ?_|(refine LS.nilO ?_;intro nq hnq hltq;try refine zU ?_)|(refine MS.new ?_;intro bq hbq hbqf;try refine zU ?_)|(refine MS.nil ?_;intro nq hnq hltq;have hlq:=hltq _ _ (Hp.get_eq _ _ _);clear hltq;try refine zU ?_)|(refine LS.nilQ ?_;try with_reducible intro nq hnq;try refine zU ?_))
    exact ⟨_, H, rfl, by exact zD, .inl ⟨rfl, fun t' ht' => hJ t' ht'⟩, rfl⟩
/-- (*impl.Hopf).axiom5 -/
def ir110 : Cd := (.seq (.reg [⟨some 2,none,.mov (.c (.bool false))⟩]) (.seq (.reg [⟨some 6,none,.mov (.t 0)⟩,⟨some 7,none,.call 49 [(.t 6)]⟩,⟨some 3,none,.new 85 [(2,(.int .i64 0))]⟩,⟨none,none,.st 2 (.t 3) (.t 7)⟩]) (.seq (.seq (.reg [⟨some 8,none,.fa 1 (.t 3)⟩,⟨some 9,none,.ld none (.t 8)⟩,⟨some 10,none,.mov (.c (.int .i64 0))⟩]) (.block 0 (.loop (.seq (.reg [⟨some 11,none,.bin .lss (.t 10) (.t 9)⟩]) (.seq (.cond (.t 11) .skip (.exit 0)) (.seq (.block 1 (.seq (.reg [⟨some 12,none,.mov (.t 10)⟩,⟨some 4,none,.mov (.t 12)⟩]) (.seq (.reg [⟨some 13,none,.fa 1 (.t 3)⟩,⟨some 14,none,.ld none (.t 13)⟩,⟨some 15,none,.mov (.c (.int .i64 0))⟩]) (.block 2 (.loop (.seq (.reg [⟨some 16,none,.bin .lss (.t 15) (.t 14)⟩]) (.seq (.cond (.t 16) .skip (.exit 2)) (.seq (.block 3 (.seq (.reg [⟨some 17,none,.mov (.t 15)⟩,⟨some 5,none,.mov (.t 17)⟩]) (.seq (.drw true [] [⟨some 18,none,.mov (.t 0)⟩,⟨some 19,none,.mov (.t 0)⟩,⟨some 20,none,.mov (.t 4)⟩,⟨some 21,none,.mov (.t 5)⟩,⟨some 22,none,.ck (.t 19)⟩,⟨some 23,none,.fa 10 (.t 22)⟩,⟨some 24,none,.ia 8 64 (.t 23) (.t 20)⟩,⟨some 25,none,.ia 8 8 (.t 24) (.t 21)⟩,⟨some 26,none,.ld (some 8) (.t 25)⟩,⟨some 27,none,.call 129 [(.t 18),(.t 26)]⟩,⟨some 28,none,.mov (.t 0)⟩,⟨some 29,none,.mov (.t 4)⟩,⟨some 30,none,.ck (.t 28)⟩,⟨some 31,none,.fa 522 (.t 30)⟩,⟨some 32,none,.ia 8 1 (.t 31) (.t 29)⟩,⟨some 33,none,.ld none (.t 32)⟩,⟨some 34,none,.cv .i64 (.t 33)⟩,⟨some 35,none,.mov (.t 0)⟩,⟨some 36,none,.mov (.t 5)⟩,⟨some 37,none,.ck (.t 35)⟩,⟨some 38,none,.fa 522 (.t 37)⟩,⟨some 39,none,.ia 8 1 (.t 38) (.t 36)⟩,⟨some 40,none,.ld none (.t 39)⟩,⟨some 41,none,.cv .i64 (.t 40)⟩,⟨some 42,none,.bin .mul (.t 34) (.t 41)⟩,⟨some 43,none,.fa 0 (.t 3)⟩,⟨some 44,none,.ld none (.t 43)⟩,⟨some 45,none,.bin .rem (.t 42) (.t 44)⟩,⟨some 46,none,.bin .neq (.t 27) (.t 45)⟩]) (.cond (.t 46) (.seq (.reg [⟨some 2,none,.mov (.c (.bool false))⟩]) .ret) .skip)))) (.reg [⟨some 47,none,.bin .add (.t 15) (.c (.int .i64 1))⟩,⟨some 15,none,.mov (.t 47)⟩]))))))))) (.reg [⟨some 48,none,.bin .add (.t 10) (.c (.int .i64 1))⟩,⟨some 10,none,.mov (.t 48)⟩]))))))) (.seq (.reg [⟨some 49,none,.mov (.t 0)⟩,⟨some 50,none,.mov (.t 0)⟩,⟨some 51,none,.ck (.t 50)⟩,⟨some 52,none,.fa 2 (.t 51)⟩,⟨some 53,none,.ld (some 8) (.t 52)⟩,⟨some 54,none,.call 129 [(.t 49),(.t 53)]⟩,⟨some 55,none,.bin .eql (.t 54) (.c (.int .i64 1))⟩,⟨some 2,none,.mov (.t 55)⟩]) .ret))))
set_option maxRecDepth 100000 in
theorem tr110 : trFn Tryz.prog Tryz.f110 = some (56, ir110, [.tmp 2]) := by kernel_rfl
theorem Hopf_axiom5 (h : HT) (a : Nat) (b : Nat) (K : Blk) (H : Hp) (n : Nat) (hS : HS h a) (hb : H.get b = some K) (hsz : K.size = 1106) (hK : h.At K.c) (hB : h.By) :
    FnS Tryz.prog 110 [ptr b 0] H n (fun r H' _ => r = bl (tb (ax5 h)) ∧ H' = H) := by
  have hp := hS.hp
  have ha := hS.ha
  have hk1 := hK.n
  rw [hS.hn] at hk1
  have hk5 := hK.m
  have hk6 := hK.e
  have hk7 := hK.u
  refine FnS.of_body Tryz.func110 tr110 (by simp) (fun hf => ?_)
  dsimp only [argEnv]
  unfold ir110
  have hbn := getlt hf hb
  (repeat first|refine zG ?_|(refine LS.nilO ?_;intro nq hnq hltq;try refine zU ?_)|(refine MS.new ?_;intro bq hbq hbqf;try refine zU ?_)|(refine MS.nil ?_;intro nq hnq hltq;have hlq:=hltq _ _ (Hp.get_eq _ _ _);clear hltq;try refine zU ?_)|(refine LS.nilQ ?_;try with_reducible intro nq hnq;try refine zU ?_))
  refine RS.call rfl ((Hopf_field h.p a b K _ _ (by exact zH) hsz hK.p hk1 (by omega)).mono ?_)
  rintro r H n2 hn2 ⟨rfl, rfl⟩
  (repeat first|refine zG ?_|(refine LS.nilO ?_;intro nq hnq hltq;try refine zU ?_)|(refine MS.new ?_;intro bq hbq hbqf;try refine zU ?_)|(refine MS.nil ?_;intro nq hnq hltq;have hlq:=hltq _ _ (Hp.get_eq _ _ _);clear hltq;try refine zU ?_)|(refine LS.nilQ ?_;try with_reducible intro nq hnq;try refine zU ?_))
  refine CS.iter a (fun i => [(10, i64 i), (9, i64 a), (3, ptr n2 0), (0, ptr b 0)]) (fun _ => (n2, ⟨2, fldC h.p a, 85⟩) :: H)
    (fun i => ∀ i' j : Nat, i' < i → j < a → dotk h.p h.e (fun x => h.m (64 * i' + 8 * j + x)) 8 = h.e i' * h.e j % h.p) (by (repeat first | exact trivial | refine And.intro rfl ?_)) (by exact zD) (fun _ _ h => by omega) ?_
  intro i n1 hi hn hJ
  (repeat first|refine zG ?_|(refine LS.nilO ?_;intro nq hnq hltq;try refine zU ?_)|(refine MS.new ?_;intro bq hbq hbqf;try refine zU ?_)|(refine MS.nil ?_;intro nq hnq hltq;have hlq:=hltq _ _ (Hp.get_eq _ _ _);clear hltq;try refine zU ?_)|(refine LS.nilQ ?_;try with_reducible intro nq hnq;try refine zU ?_))
  refine zI ?_ ?_<;>intro h2
  · (repeat first|refine zG ?_|(refine LS.nilO ?_;intro nq hnq hltq;try refine zU ?_)|(refine MS.new ?_;intro bq hbq hbqf;try refine zU ?_)|(refine MS.nil ?_;intro nq hnq hltq;have hlq:=hltq _ _ (Hp.get_eq _ _ _);clear hltq;try refine zU ?_)|(refine LS.nilQ ?_;try with_reducible intro nq hnq;try refine zU ?_))
    refine CS.iter a (fun j => [(15, i64 j), (14, i64 a), (4, i64 i), (10, i64 i), (9, i64 a), (3, ptr n2 0), (0, ptr b 0)]) (fun _ => (n2, ⟨2, fldC h.p a, 85⟩) :: H)
      (fun j => ∀ j' : Nat, j' < j → dotk h.p h.e (fun x => h.m (64 * i + 8 * j' + x)) 8 = h.e i * h.e j' % h.p) (by (repeat first | exact trivial | refine And.intro rfl ?_)) (Drops.refl _ _) (fun _ h => by omega) ?_
    intro j n3 hj hn3 hJ2
    (repeat first|refine zG ?_|(refine LS.nilO ?_;intro nq hnq hltq;try refine zU ?_)|(refine MS.new ?_;intro bq hbq hbqf;try refine zU ?_)|(refine MS.nil ?_;intro nq hnq hltq;have hlq:=hltq _ _ (Hp.get_eq _ _ _);clear hltq;try refine zU ?_)|(refine LS.nilQ ?_;try with_reducible intro nq hnq;try refine zU ?_))
    refine zI ?_ ?_<;>intro h3
    · have hei := hB.e i (by omega)
      have hej := hB.e j (by omega)
      have hee := mulB hei.1 hei.2 hej.1 hej.2
      (repeat first|refine zG ?_|(refine LS.nilO ?_;intro nq hnq hltq;try refine zU ?_)|(refine MS.new ?_;intro bq hbq hbqf;try refine zU ?_)|(refine MS.nil ?_;intro nq hnq hltq;have hlq:=hltq _ _ (Hp.get_eq _ _ _);clear hltq;try refine zU ?_)|(refine LS.nilQ ?_;try with_reducible intro nq hnq;try refine zU ?_))
      refine LS.callQ (i64 (dotk h.p h.e (fun x => h.m (64 * i + 8 * j + x)) 8)) rfl (fun n' hn' => Hopf_counit h a (fun x => h.m (64 * i + 8 * j + x)) b K _ _ hS (by exact zH) hsz hK hB (hB.rowm (by omega) (by omega))) ?_
      (repeat first|refine zG ?_|(refine LS.nilO ?_;intro nq hnq hltq;try refine zU ?_)|(refine MS.new ?_;intro bq hbq hbqf;try refine zU ?_)|(refine MS.nil ?_;intro nq hnq hltq;have hlq:=hltq _ _ (Hp.get_eq _ _ _);clear hltq;try refine zU ?_)|(refine LS.nilQ ?_;try with_reducible intro nq hnq;try refine zU ?_))
      refine zI ?_ ?_<;>intro h4
      · (repeat first|refine zG ?_|(refine LS.nilO ?_;intro nq hnq hltq;try refine zU ?_)|(refine MS.new ?_;intro bq hbq hbqf;try refine zU ?_)|(refine MS.nil ?_;intro nq hnq hltq;have hlq:=hltq _ _ (Hp.get_eq _ _ _);clear hltq;try refine zU ?_)|(refine LS.nilQ ?_;try with_reducible intro nq hnq;try refine zU ?_))
        exact ⟨_, H, rfl, by exact zD, by rw [tb_false (fun q => h4 (q.1 i j (by rw [hS.N]; omega) (by rw [hS.N]; omega)))], rfl⟩
      · (repeat first|refine zG ?_|(refine LS.nilO ?_;intro nq hnq hltq;try refine zU ?_)|(refine MS.new ?_;intro bq hbq hbqf;try refine zU ?_)|(refine MS.nil ?_;intro nq hnq hltq;have hlq:=hltq _ _ (Hp.get_eq _ _ _);clear hltq;try refine zU ?_)|(refine LS.nilQ ?_;try with_reducible intro nq hnq;try refine zU ?_))
        refine ⟨by omega, by (repeat first | exact trivial | refine And.intro rfl ?_), Drops.refl _ _, fun j' hj' => ?_⟩
        by_cases e : j' = j
        · subst e; exact h4
        · exact hJ2 j' (by omega)
    · have : j = a := by omega
      subst this
      (repeat first|refine zG ?_|(refine LS.nilO ?_;intro nq hnq hltq;try refine zU ?_)|(refine MS.new ?_;intro bq hbq hbqf;try refine zU ?_)|(refine MS.nil ?_;intro nq hnq hltq;have hlq:=hltq _ _ (Hp.get_eq _ _ _);clear hltq;try refine zU ?_)|(refine LS.nilQ ?_;try with_reducible intro nq hnq;try refine zU ?_))
      refine ⟨by omega, by (repeat first | exact trivial | refine And.intro rfl ?_), Drops.refl _ _, fun i' j' hi' => ?_⟩
      by_cases e : i' = i
      · subst e; exact fun hj' => hJ2 j' hj'
      · exact hJ i' j' (by omega)
  · have : i = a := by omega
    subst this
    (repeat first|refine zG ?_|(refine LS.nilO ?_;intro nq hnq hltq;try refine zU ?_)|(refine MS.new ?_;intro bq hbq hbqf;try refine zU ?_)|(refine MS.nil ?_;intro nq hnq hltq;have hlq:=hltq _ _ (Hp.get_eq _ _ _);clear hltq;try refine zU ?_)|(refine LS.nilQ ?_;try with_reducible intro nq hnq;try refine zU ?_))
    refine RS.call rfl ((Hopf_counit h i h.u b K _ _ hS (by exact zH) hsz hK hB hB.u).mono ?_)
    rintro r H4 n3 hn3 ⟨rfl, rfl⟩
    (repeat first|refine zG ?_|(refine LS.nilO ?_;intro nq hnq hltq;try refine zU ?_)|(refine MS.new ?_;intro bq hbq hbqf;try refine zU ?_)|(refine MS.nil ?_;intro nq hnq hltq;have hlq:=hltq _ _ (Hp.get_eq _ _ _);clear hltq;try refine zU ?_)|(refine LS.nilQ ?_;try with_reducible intro nq hnq;try refine zU ?_))
    exact ⟨_, H, rfl, by exact zD, by
      rw [tb_iff (R := dotk h.p h.e h.u 8 = 1) ⟨fun q => q.2, fun q => ⟨fun i' j' h1 h2 => by rw [hS.N] at h1 h2; exact hJ i' j' h1 h2, q⟩⟩, tb_dec]
      rfl, rfl⟩
/-- spec.l02Outer -/
def ir57 : Cd := (.seq (.reg [⟨some 4,none,.box 27 (.t 1)⟩,⟨some 5,none,.box 27 (.t 2)⟩,⟨some 6,none,.new 29 [(64,(.int .u8 0))]⟩]) (.seq (.reg [⟨some 9,none,.build 64 [(64,(.int .u8 0))] []⟩,⟨some 7,none,.new 29 [(64,(.int .u8 0))]⟩,⟨none,none,.st 64 (.t 7) (.t 9)⟩]) (.seq (.seq (.reg [⟨some 8,none,.mov (.c (.int .i64 0))⟩]) (.block 0 (.loop (.seq (.seq (.reg [⟨some 10,none,.mov (.t 8)⟩,⟨some 11,none,.bin .lss (.t 10) (.c (.int .i64 8))⟩]) (.cond (.t 11) .skip (.exit 0))) (.seq (.block 1 (.drw true [10] [⟨some 14,none,.mov (.t 8)⟩,⟨some 15,none,.mov (.t 0)⟩,⟨some 16,none,.build 8 [(8,(.int .u8 0))] []⟩,⟨some 17,none,.ld (some 8) (.t 5)⟩,⟨some 18,none,.mov (.t 8)⟩,⟨some 19,none,.ia 8 1 (.t 4) (.t 18)⟩,⟨some 20,none,.ld none (.t 19)⟩,⟨some 21,none,.cv .i64 (.t 20)⟩,⟨some 22,none,.call 47 [(.t 15),(.t 16),(.t 17),(.t 21)]⟩,⟨some 23,none,.ia 8 8 (.t 7) (.t 14)⟩,⟨none,none,.st 8 (.t 23) (.t 22)⟩])) (.reg [⟨some 12,none,.mov (.t 8)⟩,⟨some 13,none,.bin .add (.t 12) (.c (.int .i64 1))⟩,⟨some 8,none,.mov (.t 13)⟩])))))) (.seq (.reg [⟨some 24,none,.ld (some 64) (.t 7)⟩,⟨none,none,.st 64 (.t 6) (.t 24)⟩]) .ret))))
set_option maxRecDepth 100000 in
theorem tr57 : trFn Tryz.prog Tryz.f57 = some (25, ir57, [.cell (some 64) 6]) := by kernel_rfl
theorem spec_l02Outer (p : Int) (v w : Nat → Int) (H : Hp) (n : Nat) (hp : 2 ≤ p ∧ p ≤ 31) (hv : isBy 8 v) (hw : isBy 8 w) :
    FnS Tryz.prog 57 [i64 p, .arr 8 (bys v), .arr 8 (bys w)] H n (fun r H' _ => r = .arr 64 (bys (outer p v w)) ∧ H' = H) := by
  refine FnS.of_body Tryz.func57 tr57 (by simp) (fun hf => ?_)
  dsimp only [argEnv]
  unfold ir57
  (repeat first|refine zG ?_|(refine LS.nilO ?_;intro nq hnq hltq;try refine zU ?_)|(refine MS.new ?_;intro bq hbq hbqf;try refine zU ?_)|(refine MS.nil ?_;intro nq hnq hltq;have hlq:=hltq _ _ (Hp.get_eq _ _ _);clear hltq;try refine zU ?_)|(refine LS.nilQ ?_;try with_reducible intro nq hnq;try refine zU ?_))
  refine CS.iter 8 (fun i => [(8, i64 i), (0, i64 p), (4, ptr n 0), (5, ptr (n + 1) 0), (6, ptr (n + 2) 0), (7, ptr (n + 3) 0)])
    (fun i => (n + 3, ⟨64, bys (rowsTo (fun _ => 0) (outer p v w) i), 29⟩) :: (n + 2, ⟨64, bys (fun _ => 0), 29⟩) :: (n + 1, ⟨8, bys w, 27⟩) :: (n, ⟨8, bys v, 27⟩) :: H) (fun _ => True) (by (repeat first | exact trivial | refine And.intro rfl ?_))
    (Drops.keepc rfl rfl (fun _ _ => by rw [rowsTo_zero]; rfl) (Drops.keepc rfl rfl (fun _ _ => rfl) (Drops.refl _ _))) trivial ?_
  intro i n1 hi hn _
  (repeat first|refine zG ?_|(refine LS.nilO ?_;intro nq hnq hltq;try refine zU ?_)|(refine MS.new ?_;intro bq hbq hbqf;try refine zU ?_)|(refine MS.nil ?_;intro nq hnq hltq;have hlq:=hltq _ _ (Hp.get_eq _ _ _);clear hltq;try refine zU ?_)|(refine LS.nilQ ?_;try with_reducible intro nq hnq;try refine zU ?_))
  refine zI ?_ ?_<;>intro h1
  · have hvi := hv i (by omega)
    (repeat first|refine zG ?_|(refine LS.nilO ?_;intro nq hnq hltq;try refine zU ?_)|(refine MS.new ?_;intro bq hbq hbqf;try refine zU ?_)|(refine MS.nil ?_;intro nq hnq hltq;have hlq:=hltq _ _ (Hp.get_eq _ _ _);clear hltq;try refine zU ?_)|(refine LS.nilQ ?_;try with_reducible intro nq hnq;try refine zU ?_))
    refine LS.callQ (.arr 8 (bys (pl p (fun _ => 0) (v i) w))) rfl (fun n' hn' => spec_l01Add p (v i) (fun _ => 0) w _ _ hp ((isRes_zero hp.1 8).by hp.2) hw (by omega)) ?_
    (repeat first|refine zG ?_|(refine LS.nilO ?_;intro nq hnq hltq;try refine zU ?_)|(refine MS.new ?_;intro bq hbq hbqf;try refine zU ?_)|(refine MS.nil ?_;intro nq hnq hltq;have hlq:=hltq _ _ (Hp.get_eq _ _ _);clear hltq;try refine zU ?_)|(refine LS.nilQ ?_;try with_reducible intro nq hnq;try refine zU ?_))
    exact ⟨by omega, by (repeat first | exact trivial | refine And.intro rfl ?_), Drops.keepc rfl rfl (fun q hq => rowsTo_step (fun y hy => outer_row _ _ _ _ _ hy) q) (Drops.refl _ _), trivial⟩
  · have : i = 8 := by omega
    subst this
    (repeat first|refine zG ?_|(refine LS.nilO ?_;intro nq hnq hltq;try refine zU ?_)|(refine MS.new ?_;intro bq hbq hbqf;try refine zU ?_)|(refine MS.nil ?_;intro nq hnq hltq;have hlq:=hltq _ _ (Hp.get_eq _ _ _);clear hltq;try refine zU ?_)|(refine LS.nilQ ?_;try with_reducible intro nq hnq;try refine zU ?_))
    exact ⟨.arr 64 (bys (outer p v w)), H, conc_arr (fun q hq => by simp only [Nat.zero_add, bys]; rw [rowsTo_all (n := 8) (N := 64) (fun q h1 h2 => by omega) hq]), by exact zD, rfl, rfl⟩
/-- laws.eqTable -/
def ir43 : Cd := (.seq (.reg [⟨some 2,none,.box 33 (.t 0)⟩,⟨some 3,none,.box 33 (.t 1)⟩,⟨some 4,none,.mov (.c (.bool false))⟩]) (.seq (.seq (.reg [⟨some 5,none,.mov (.c (.int .i64 0))⟩]) (.block 0 (.loop (.seq (.seq (.reg [⟨some 6,none,.mov (.t 5)⟩,⟨some 7,none,.bin .lss (.t 6) (.c (.int .i64 8))⟩]) (.cond (.t 7) .skip (.exit 0))) (.seq (.block 1 (.seq (.drw true [6] [⟨some 10,none,.mov (.t 5)⟩,⟨some 11,none,.ia 8 64 (.t 2) (.t 10)⟩,⟨some 12,none,.ld (some 64) (.t 11)⟩,⟨some 13,none,.mov (.t 5)⟩,⟨some 14,none,.ia 8 64 (.t 3) (.t 13)⟩,⟨some 15,none,.ld (some 64) (.t 14)⟩,⟨some 16,none,.call 11 [(.t 12),(.t 15)]⟩,⟨some 17,none,.un .not (.t 16)⟩]) (.cond (.t 17) (.seq (.reg [⟨some 4,none,.mov (.c (.bool false))⟩]) .ret) .skip))) (.reg [⟨some 8,none,.mov (.t 5)⟩,⟨some 9,none,.bin .add (.t 8) (.c (.int .i64 1))⟩,⟨some 5,none,.mov (.t 9)⟩])))))) (.seq (.reg [⟨some 4,none,.mov (.c (.bool true))⟩]) .ret)))
set_option maxRecDepth 100000 in
theorem tr43 : trFn Tryz.prog Tryz.f43 = some (18, ir43, [.tmp 4]) := by kernel_rfl
theorem laws_eqTable (f g : Nat → Int) (H : Hp) (n : Nat) :
    FnS Tryz.prog 43 [.arr 512 (bys f), .arr 512 (bys g)] H n (fun r H' _ => r = bl (tb (∀ q, q < 512 → f q = g q)) ∧ H' = H) := by
  refine FnS.of_body Tryz.func43 tr43 (by simp) (fun hf => ?_)
  dsimp only [argEnv]
  unfold ir43
  (repeat first|refine zG ?_|(refine LS.nilO ?_;intro nq hnq hltq;try refine zU ?_)|(refine MS.new ?_;intro bq hbq hbqf;try refine zU ?_)|(refine MS.nil ?_;intro nq hnq hltq;have hlq:=hltq _ _ (Hp.get_eq _ _ _);clear hltq;try refine zU ?_)|(refine LS.nilQ ?_;try with_reducible intro nq hnq;try refine zU ?_))
  refine CS.iter 8 (fun i => [(5, i64 i), (2, ptr n 0), (3, ptr (n + 1) 0)]) (fun _ => (n + 1, ⟨512, bys g, 33⟩) :: (n, ⟨512, bys f, 33⟩) :: H) (fun i => ∀ q, q < 64 * i → f q = g q) (by (repeat first | exact trivial | refine And.intro rfl ?_)) (by exact zD) (fun _ h => by omega) ?_
  intro i n1 hi hn hJ
  (repeat first|refine zG ?_|(refine LS.nilO ?_;intro nq hnq hltq;try refine zU ?_)|(refine MS.new ?_;intro bq hbq hbqf;try refine zU ?_)|(refine MS.nil ?_;intro nq hnq hltq;have hlq:=hltq _ _ (Hp.get_eq _ _ _);clear hltq;try refine zU ?_)|(refine LS.nilQ ?_;try with_reducible intro nq hnq;try refine zU ?_))
  refine zI ?_ ?_<;>intro h1
  · have hr : ∀ q, q < 64 → (bys f) (64 * i + q) = .int .u8 (f (64 * i + q)) := fun q hq => rfl
    have hr2 : ∀ q, q < 64 → (bys g) (64 * i + q) = .int .u8 (g (64 * i + q)) := fun q hq => rfl
    (repeat first|refine zG ?_|(refine LS.nilO ?_;intro nq hnq hltq;try refine zU ?_)|(refine MS.new ?_;intro bq hbq hbqf;try refine zU ?_)|(refine MS.nil ?_;intro nq hnq hltq;have hlq:=hltq _ _ (Hp.get_eq _ _ _);clear hltq;try refine zU ?_)|(refine LS.nilQ ?_;try with_reducible intro nq hnq;try refine zU ?_))
    refine RS.call rfl ((laws_eqLinear (fun x => f (64 * i + x)) (fun x => g (64 * i + x)) _ _).mono ?_)
    rintro r H' n2 hn2 ⟨rfl, rfl⟩
    (repeat first|refine zG ?_|(refine LS.nilO ?_;intro nq hnq hltq;try refine zU ?_)|(refine MS.new ?_;intro bq hbq hbqf;try refine zU ?_)|(refine MS.nil ?_;intro nq hnq hltq;have hlq:=hltq _ _ (Hp.get_eq _ _ _);clear hltq;try refine zU ?_)|(refine LS.nilQ ?_;try with_reducible intro nq hnq;try refine zU ?_))
    refine zI ?_ ?_<;>intro h2
    · (repeat first|refine zG ?_|(refine LS.nilO ?_;intro nq hnq hltq;try refine zU ?_)|(refine MS.new ?_;intro bq hbq hbqf;try refine zU ?_)|(refine MS.nil ?_;intro nq hnq hltq;have hlq:=hltq _ _ (Hp.get_eq _ _ _);clear hltq;try refine zU ?_)|(refine LS.nilQ ?_;try with_reducible intro nq hnq;try refine zU ?_))
      exact ⟨_, H, rfl, by exact zD, by rw [tb_false (fun q => h2 (fun x hx => q _ (by omega)))], rfl⟩
    · (repeat first|refine zG ?_|(refine LS.nilO ?_;intro nq hnq hltq;try refine zU ?_)|(refine MS.new ?_;intro bq hbq hbqf;try refine zU ?_)|(refine MS.nil ?_;intro nq hnq hltq;have hlq:=hltq _ _ (Hp.get_eq _ _ _);clear hltq;try refine zU ?_)|(refine LS.nilQ ?_;try with_reducible intro nq hnq;try refine zU ?_))
      refine ⟨by omega, by (repeat first | exact trivial | refine And.intro rfl ?_), by exact zD, fun q hq => ?_⟩
      by_cases e : q < 64 * i
      · exact hJ q e
      · have := h2 (q - 64 * i) (by omega)
        rwa [show 64 * i + (q - 64 * i) = q by omega] at this
  · have : i = 8 := by omega
    subst this
    (repeat first|refine zG ?_|(refine LS.nilO ?_;intro nq hnq hltq;try refine zU ?_)|(refine MS.new ?_;intro bq hbq hbqf;try refine zU ?_)|(refine MS.nil ?_;intro nq hnq hltq;have hlq:=hltq _ _ (Hp.get_eq _ _ _);clear hltq;try refine zU ?_)|(refine LS.nilQ ?_;try with_reducible intro nq hnq;try refine zU ?_))
    exact ⟨_, H, rfl, by exact zD, by rw [tb_true (show ∀ q, q < 512 → f q = g q from hJ)], rfl⟩
/-- (*impl.Hopf).secondPart -/
def ir62 : Cd := (.seq (.reg [⟨some 4,none,.new 33 [(512,(.int .u8 0))]⟩]) (.seq (.reg [⟨some 11,none,.mov (.t 0)⟩,⟨some 12,none,.call 49 [(.t 11)]⟩,⟨some 13,none,.build 512 [(512,(.int .u8 0))] []⟩,⟨some 5,none,.new 85 [(2,(.int .i64 0))]⟩,⟨some 6,none,.new 33 [(512,(.int .u8 0))]⟩,⟨none,none,.st 2 (.t 5) (.t 12)⟩,⟨none,none,.st 512 (.t 6) (.t 13)⟩]) (.seq (.seq (.reg [⟨some 14,none,.fa 1 (.t 5)⟩,⟨some 15,none,.ld none (.t 14)⟩,⟨some 16,none,.mov (.c (.int .i64 0))⟩]) (.block 0 (.loop (.seq (.reg [⟨some 17,none,.bin .lss (.t 16) (.t 15)⟩]) (.seq (.cond (.t 17) .skip (.exit 0)) (.seq (.block 1 (.seq (.reg [⟨some 18,none,.mov (.t 16)⟩,⟨some 7,none,.mov (.t 18)⟩]) (.seq (.reg [⟨some 19,none,.mov (.t 1)⟩,⟨some 20,none,.mov (.t 7)⟩,⟨some 21,none,.ck (.t 19)⟩,⟨some 22,none,.ia 8 8 (.t 21) (.t 20)⟩,⟨some 23,none,.ld (some 8) (.t 22)⟩,⟨some 24,none,.mov (.c (.int .i64 0))⟩]) (.block 2 (.loop (.seq (.reg [⟨some 25,none,.bin .lss (.t 24) (.c (.int .i64 8))⟩]) (.seq (.cond (.t 25) .skip (.exit 2)) (.seq (.block 3 (.seq (.reg [⟨some 26,none,.mov (.t 24)⟩,⟨some 27,none,.ix 8 1 none (.t 23) (.t 24)⟩,⟨some 8,none,.mov (.t 26)⟩,⟨some 9,none,.mov (.t 27)⟩]) (.seq (.reg [⟨some 28,none,.fa 1 (.t 5)⟩,⟨some 29,none,.ld none (.t 28)⟩,⟨some 30,none,.mov (.c (.int .i64 0))⟩]) (.block 4 (.loop (.seq (.reg [⟨some 31,none,.bin .lss (.t 30) (.t 29)⟩]) (.seq (.cond (.t 31) .skip (.exit 4)) (.seq (.block 5 (.seq (.reg [⟨some 32,none,.mov (.t 30)⟩,⟨some 10,none,.mov (.t 32)⟩]) (.drw true [15] [⟨some 33,none,.ld (some 2) (.t 5)⟩,⟨some 34,none,.mov (.t 7)⟩,⟨some 35,none,.mov (.t 10)⟩,⟨some 36,none,.ia 8 64 (.t 6) (.t 34)⟩,⟨some 37,none,.ia 8 8 (.t 36) (.t 35)⟩,⟨some 38,none,.mov (.t 9)⟩,⟨some 39,none,.cv .i64 (.t 38)⟩,⟨some 40,none,.mov (.t 0)⟩,⟨some 41,none,.mov (.t 8)⟩,⟨some 42,none,.mov (.t 10)⟩,⟨some 43,none,.ck (.t 40)⟩,⟨some 44,none,.fa 530 (.t 43)⟩,⟨some 45,none,.ia 8 64 (.t 44) (.t 41)⟩,⟨some 46,none,.ia 8 8 (.t 45) (.t 42)⟩,⟨some 47,none,.ld (some 8) (.t 46)⟩,⟨some 48,none,.call 50 [(.t 33),(.t 37),(.t 39),(.t 47)]⟩]))) (.reg [⟨some 49,none,.bin .add (.t 30) (.c (.int .i64 1))⟩,⟨some 30,none,.mov (.t 49)⟩]))))))))) (.reg [⟨some 50,none,.bin .add (.t 24) (.c (.int .i64 1))⟩,⟨some 24,none,.mov (.t 50)⟩]))))))))) (.reg [⟨some 51,none,.bin .add (.t 16) (.c (.int .i64 1))⟩,⟨some 16,none,.mov (.t 51)⟩]))))))) (.seq (.reg [⟨some 52,none,.ld (some 512) (.t 6)⟩,⟨none,none,.st 512 (.t 4) (.t 52)⟩]) .ret))))
set_option maxRecDepth 100000 in
theorem tr62 : trFn Tryz.prog Tryz.f62 = some (53, ir62, [.cell (some 512) 4]) := by kernel_rfl
theorem Hopf_secondPart (h : HT) (a : Nat) (s : Nat → Int) (b bs os : Nat) (K Ks : Blk) (H : Hp) (n : Nat) (hS : HS h a) (hb : H.get b = some K) (hsz : K.size = 1106) (hK : h.At K.c) (hB : h.By)
    (hbs : H.get bs = some Ks) (ho : os + 64 ≤ Ks.size) (hc : ∀ i, i < 64 → Ks.c (os + i) = .int .u8 (s i)) (hs : isBy 64 s) (hz : lz a s) :
    FnS Tryz.prog 62 [ptr b 0, ptr bs os] H n (fun r H' _ => r = .arr 512 (bys (snd h.p h.c s)) ∧ H' = H) := by
  have hp := hS.hp
  have ha := hS.ha
  have hk1 := hK.n
  rw [hS.hn] at hk1
  have hk5 := hK.c
  refine FnS.of_body Tryz.func62 tr62 (by simp) (fun hf => ?_)
  dsimp only [argEnv]
  unfold ir62
  have hbn := getlt hf hb
  have hbn2 := getlt hf hbs
  (repeat first|refine zG ?_|(refine LS.nilO ?_;intro nq hnq hltq;try refine zU ?_)|(refine MS.new ?_;intro bq hbq hbqf;try refine zU ?_)|(refine MS.nil ?_;intro nq hnq hltq;have hlq:=hltq _ _ (Hp.get_eq _ _ _);clear hltq;try refine zU ?_)|(refine LS.nilQ ?_;try with_reducible intro nq hnq;try refine zU ?_))
  refine RS.call rfl ((Hopf_field h.p a b K _ _ (by exact zH) hsz hK.p hk1 (by omega)).mono ?_)
  rintro r H' n2 hn2 ⟨rfl, rfl⟩
  (repeat first|refine zG ?_|(refine LS.nilO ?_;intro nq hnq hltq;try refine zU ?_)|(refine MS.new ?_;intro bq hbq hbqf;try refine zU ?_)|(refine MS.nil ?_;intro nq hnq hltq;have hlq:=hltq _ _ (Hp.get_eq _ _ _);clear hltq;try refine zU ?_)|(refine LS.nilQ ?_;try with_reducible intro nq hnq;try refine zU ?_))
  refine CS.iter a (fun i => [(16, i64 i), (15, i64 a), (0, ptr b 0), (1, ptr bs os), (4, ptr n 0), (5, ptr n2 0), (6, ptr (n2 + 1) 0)])
    (fun i => (n2 + 1, ⟨512, bys (spt h.p h.c s i 0), 33⟩) :: (n2, ⟨2, fldC h.p a, 85⟩) :: (n, ⟨512, bys (fun _ => 0), 33⟩) :: H) (fun _ => True) (by (repeat first | exact trivial | refine And.intro rfl ?_))
    (Drops.keepc rfl rfl (fun _ _ => by rw [spt_zero]; rfl) (Drops.keepc rfl rfl (fun _ _ => rfl) (Drops.keepc rfl rfl (fun _ _ => rfl) (Drops.refl _ _)))) trivial ?_
  intro i n3 hi hn _
  (repeat first|refine zG ?_|(refine LS.nilO ?_;intro nq hnq hltq;try refine zU ?_)|(refine MS.new ?_;intro bq hbq hbqf;try refine zU ?_)|(refine MS.nil ?_;intro nq hnq hltq;have hlq:=hltq _ _ (Hp.get_eq _ _ _);clear hltq;try refine zU ?_)|(refine LS.nilQ ?_;try with_reducible intro nq hnq;try refine zU ?_))
  refine zI ?_ ?_<;>intro h2
  · (repeat first|refine zG ?_|(refine LS.nilO ?_;intro nq hnq hltq;try refine zU ?_)|(refine MS.new ?_;intro bq hbq hbqf;try refine zU ?_)|(refine MS.nil ?_;intro nq hnq hltq;have hlq:=hltq _ _ (Hp.get_eq _ _ _);clear hltq;try refine zU ?_)|(refine LS.nilQ ?_;try with_reducible intro nq hnq;try refine zU ?_))
    refine CS.iter 8 (fun k => [(24, i64 k), (23, .arr 8 (bys (fun x => s (8 * i + x)))), (7, i64 i), (16, i64 i), (15, i64 a), (0, ptr b 0), (1, ptr bs os), (4, ptr n 0), (5, ptr n2 0), (6, ptr (n2 + 1) 0)])
      (fun k => (n2 + 1, ⟨512, bys (spt h.p h.c s i k), 33⟩) :: (n2, ⟨2, fldC h.p a, 85⟩) :: (n, ⟨512, bys (fun _ => 0), 33⟩) :: H) (fun _ => True) (by (repeat first | exact trivial | refine And.intro rfl ?_)) (Drops.refl _ _) trivial ?_
    intro k n4 hk hn4 _
    (repeat first|refine zG ?_|(refine LS.nilO ?_;intro nq hnq hltq;try refine zU ?_)|(refine MS.new ?_;intro bq hbq hbqf;try refine zU ?_)|(refine MS.nil ?_;intro nq hnq hltq;have hlq:=hltq _ _ (Hp.get_eq _ _ _);clear hltq;try refine zU ?_)|(refine LS.nilQ ?_;try with_reducible intro nq hnq;try refine zU ?_))
    refine zI ?_ ?_<;>intro h3
    · (repeat first|refine zG ?_|(refine LS.nilO ?_;intro nq hnq hltq;try refine zU ?_)|(refine MS.new ?_;intro bq hbq hbqf;try refine zU ?_)|(refine MS.nil ?_;intro nq hnq hltq;have hlq:=hltq _ _ (Hp.get_eq _ _ _);clear hltq;try refine zU ?_)|(refine LS.nilQ ?_;try with_reducible intro nq hnq;try refine zU ?_))
      refine CS.iter a (fun j => [(30, i64 j), (29, i64 a), (8, i64 k), (9, u8 (s (8 * i + k))), (24, i64 k), (23, .arr 8 (bys (fun x => s (8 * i + x)))), (7, i64 i), (16, i64 i), (15, i64 a), (0, ptr b 0), (1, ptr bs os), (4, ptr n 0), (5, ptr n2 0), (6, ptr (n2 + 1) 0)])
        (fun j => (n2 + 1, ⟨512, bys (rowsTo (spt h.p h.c s i k) (spt h.p h.c s i (k + 1)) (8 * i + j)), 33⟩) :: (n2, ⟨2, fldC h.p a, 85⟩) :: (n, ⟨512, bys (fun _ => 0), 33⟩) :: H) (fun _ => True) (by (repeat first | exact trivial | refine And.intro rfl ?_))
        (Drops.keepc rfl rfl (fun _ _ => by rw [← rowsTo_more (x := 0) (y := 8 * i + 0) (by omega) (fun q h1 h2 => spt_same (.inl (by omega))), rowsTo_zero]) (Drops.refl _ _)) trivial ?_
      intro j n5 hj hn5 _
      (repeat first|refine zG ?_|(refine LS.nilO ?_;intro nq hnq hltq;try refine zU ?_)|(refine MS.new ?_;intro bq hbq hbqf;try refine zU ?_)|(refine MS.nil ?_;intro nq hnq hltq;have hlq:=hltq _ _ (Hp.get_eq _ _ _);clear hltq;try refine zU ?_)|(refine LS.nilQ ?_;try with_reducible intro nq hnq;try refine zU ?_))
      refine zI ?_ ?_<;>intro h4
      · have hx := hs (8 * i + k) (by omega)
        (repeat first|refine zG ?_|(refine LS.nilO ?_;intro nq hnq hltq;try refine zU ?_)|(refine MS.new ?_;intro bq hbq hbqf;try refine zU ?_)|(refine MS.nil ?_;intro nq hnq hltq;have hlq:=hltq _ _ (Hp.get_eq _ _ _);clear hltq;try refine zU ?_)|(refine LS.nilQ ?_;try with_reducible intro nq hnq;try refine zU ?_))
        refine RS.call rfl ((field_plus h.p a (s (8 * i + k)) (fun y => spt h.p h.c s i k (64 * i + 8 * j + y)) (fun y => h.c (64 * k + 8 * j + y)) (n2 + 1) (64 * i + 8 * j) ⟨512, bys (rowsTo (spt h.p h.c s i k) (spt h.p h.c s i (k + 1)) (8 * i + j)), 33⟩ _ _ hp (by exact zH) (show 64 * i + 8 * j + 8 ≤ 512 by omega)
          (fun y hy => by simp only [bys, rowsTo]; rw [if_neg (by omega)]) (fun y hy => spt_res hp.1 _ _ _ _ 512 _ (by omega)) (fun x hx => hB.c _ (by omega)) (by omega)).mono ?_)
        rintro r H' n6 hn6 ⟨rfl, rfl⟩
        simp (disch := omega) only [Hp.set_eq, Hp.set_ne]
        (repeat first|refine zG ?_|(refine LS.nilO ?_;intro nq hnq hltq;try refine zU ?_)|(refine MS.new ?_;intro bq hbq hbqf;try refine zU ?_)|(refine MS.nil ?_;intro nq hnq hltq;have hlq:=hltq _ _ (Hp.get_eq _ _ _);clear hltq;try refine zU ?_)|(refine LS.nilQ ?_;try with_reducible intro nq hnq;try refine zU ?_))
        refine ⟨by omega, by (repeat first | exact trivial | refine And.intro rfl ?_), Drops.keepc rfl rfl (fun q hq => ?_) (Drops.refl _ _), trivial⟩
        rw [show 64 * i + 8 * j = 8 * (8 * i + j) by omega]
        refine rowsTo_step (fun y hy => ?_) q
        rw [← spt_row _ _ _ _ _ _ _ (by omega) hy, show 8 * (8 * i + j) = 64 * i + 8 * j by omega]
      · have : j = a := by omega
        subst this
        (repeat first|refine zG ?_|(refine LS.nilO ?_;intro nq hnq hltq;try refine zU ?_)|(refine MS.new ?_;intro bq hbq hbqf;try refine zU ?_)|(refine MS.nil ?_;intro nq hnq hltq;have hlq:=hltq _ _ (Hp.get_eq _ _ _);clear hltq;try refine zU ?_)|(refine LS.nilQ ?_;try with_reducible intro nq hnq;try refine zU ?_))
        exact ⟨by omega, by (repeat first | exact trivial | refine And.intro rfl ?_), Drops.keepc rfl rfl (fun q hq => by
          simp only [bys]
          rw [rowsTo_all (N := 512) (fun q h1 h2 => ?_) hq]
          by_cases h5 : q < 64 * (i + 1)
          · exact spt_same (.inr (hS.cm.at (by omega) (by omega) (.inr (by omega))))
          · unfold spt; rw [if_neg (by omega), if_neg h5, if_neg (by omega), if_neg h5]) (Drops.refl _ _), trivial⟩
    · have : k = 8 := by omega
      subst this
      (repeat first|refine zG ?_|(refine LS.nilO ?_;intro nq hnq hltq;try refine zU ?_)|(refine MS.new ?_;intro bq hbq hbqf;try refine zU ?_)|(refine MS.nil ?_;intro nq hnq hltq;have hlq:=hltq _ _ (Hp.get_eq _ _ _);clear hltq;try refine zU ?_)|(refine LS.nilQ ?_;try with_reducible intro nq hnq;try refine zU ?_))
      exact ⟨by omega, by (repeat first | exact trivial | refine And.intro rfl ?_), by rw [spt_next]; exact Drops.refl _ _, trivial⟩
  · have : i = a := by omega
    subst this
    (repeat first|refine zG ?_|(refine LS.nilO ?_;intro nq hnq hltq;try refine zU ?_)|(refine MS.new ?_;intro bq hbq hbqf;try refine zU ?_)|(refine MS.nil ?_;intro nq hnq hltq;have hlq:=hltq _ _ (Hp.get_eq _ _ _);clear hltq;try refine zU ?_)|(refine LS.nilQ ?_;try with_reducible intro nq hnq;try refine zU ?_))
    exact ⟨.arr 512 (bys (snd h.p h.c s)), H, conc_arr (fun q hq => by simp only [Nat.zero_add, bys]; rw [spt_end hz hq]), by exact zD, rfl, rfl⟩
end Go.Proofs.YtbknndbfbebkdabGreatR
