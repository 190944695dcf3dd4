/- Contracts of the program's functions. -/
import Derived.Test.YtbknndbfbebkdabGreatRR
import Derived.Test.YtbknndbfbebkdabGreatRLW
import Derived.Test.YtbknndbfbebkdabGreatRF1a
import Derived.Test.YtbknndbfbebkdabGreatRF1b
import Derived.Test.YtbknndbfbebkdabGreatRF1c
namespace Go.Proofs.YtbknndbfbebkdabGreatR
open Go.V
set_option linter.unusedSimpArgs false
set_option linter.unusedVariables false
set_option maxHeartbeats 4000000
/-- spec.l01Apply -/
def ir29 : Cd := (.seq (.reg [⟨some 6,none,.box 29 (.t 2)⟩,⟨some 7,none,.box 27 (.t 3)⟩,⟨some 8,none,.new 27 [(8,(.int .u8 0))]⟩]) (.seq (.reg [⟨some 11,none,.build 8 [(8,(.int .u8 0))] []⟩,⟨some 9,none,.new 27 [(8,(.int .u8 0))]⟩,⟨none,none,.st 8 (.t 9) (.t 11)⟩]) (.seq (.seq (.reg [⟨some 10,none,.mov (.c (.int .i64 0))⟩]) (.block 0 (.loop (.seq (.seq (.reg [⟨some 12,none,.mov (.t 10)⟩,⟨some 13,none,.mov (.t 1)⟩,⟨some 14,none,.bin .lss (.t 12) (.t 13)⟩]) (.cond (.t 14) .skip (.exit 0))) (.seq (.block 1 (.seq (.reg [⟨some 17,none,.mov (.t 10)⟩,⟨some 18,none,.ia 8 1 (.t 7) (.t 17)⟩,⟨some 19,none,.ld none (.t 18)⟩,⟨some 20,none,.bin .neq (.t 19) (.c (.int .u8 0))⟩]) (.cond (.t 20) (.drw true [9,10] [⟨some 21,none,.mov (.t 0)⟩,⟨some 22,none,.ld (some 8) (.t 9)⟩,⟨some 23,none,.mov (.t 10)⟩,⟨some 24,none,.ia 8 8 (.t 6) (.t 23)⟩,⟨some 25,none,.ld (some 8) (.t 24)⟩,⟨some 26,none,.mov (.t 10)⟩,⟨some 27,none,.ia 8 1 (.t 7) (.t 26)⟩,⟨some 28,none,.ld none (.t 27)⟩,⟨some 29,none,.cv .i64 (.t 28)⟩,⟨some 30,none,.call 47 [(.t 21),(.t 22),(.t 25),(.t 29)]⟩,⟨none,none,.st 8 (.t 9) (.t 30)⟩]) .skip))) (.reg [⟨some 15,none,.mov (.t 10)⟩,⟨some 16,none,.bin .add (.t 15) (.c (.int .i64 1))⟩,⟨some 10,none,.mov (.t 16)⟩])))))) (.seq (.reg [⟨some 31,none,.ld (some 8) (.t 9)⟩,⟨none,none,.st 8 (.t 8) (.t 31)⟩]) .ret))))
set_option maxRecDepth 100000 in
theorem tr29 : trFn Tryz.prog Tryz.f29 = some (32, ir29, [.cell (some 8) 8]) := by kernel_rfl
theorem spec_l01Apply (p : Int) (m : Nat) (l v : Nat → Int) (H : Hp) (n : Nat) (hp : 2 ≤ p ∧ p ≤ 31) (hm : m ≤ 8) (hl : isBy 64 l) (hv : isBy 8 v) :
    FnS Tryz.prog 29 [i64 p, i64 m, .arr 64 (bys l), .arr 8 (bys v)] H n (fun r H' _ => r = .arr 8 (bys (apk p l v m)) ∧ H' = H) := by
  refine FnS.of_body Tryz.func29 tr29 (by simp) (fun hf => ?_)
  dsimp only [argEnv]
  unfold ir29
  (repeat first|refine zG ?_|(refine LS.nilO ?_;intro nq hnq hltq;try refine zU ?_)|(refine MS.new ?_;intro bq hbq hbqf;try refine zU ?_)|(refine MS.nil ?_;intro nq hnq hltq;have hlq:=hltq _ _ (Hp.get_eq _ _ _);clear hltq;try refine zU ?_)|(refine LS.nilQ ?_;try with_reducible intro nq hnq;try refine zU ?_))
  refine CS.iter m (fun i => [(10, i64 i), (0, i64 p), (1, i64 m), (6, ptr n 0), (7, ptr (n + 1) 0), (8, ptr (n + 2) 0), (9, ptr (n + 3) 0)])
    (fun i => (n + 3, ⟨8, bys (apk p l v i), 27⟩) :: (n + 2, ⟨8, bys (fun _ => 0), 27⟩) :: (n + 1, ⟨8, bys v, 27⟩) :: (n, ⟨64, bys l, 29⟩) :: H) (fun _ => True) (by (repeat first | exact trivial | refine And.intro rfl ?_))
    (Drops.keepc rfl rfl (fun _ _ => by rw [apk_zero]; rfl) (Drops.keepc rfl rfl (fun _ _ => rfl) (Drops.refl _ _))) trivial ?_
  intro i n1 hi hn _
  (repeat first|refine zG ?_|(refine LS.nilO ?_;intro nq hnq hltq;try refine zU ?_)|(refine MS.new ?_;intro bq hbq hbqf;try refine zU ?_)|(refine MS.nil ?_;intro nq hnq hltq;have hlq:=hltq _ _ (Hp.get_eq _ _ _);clear hltq;try refine zU ?_)|(refine LS.nilQ ?_;try with_reducible intro nq hnq;try refine zU ?_))
  refine zI ?_ ?_<;>intro h1
  · have hvi := hv i (by omega)
    (repeat first|refine zG ?_|(refine LS.nilO ?_;intro nq hnq hltq;try refine zU ?_)|(refine MS.new ?_;intro bq hbq hbqf;try refine zU ?_)|(refine MS.nil ?_;intro nq hnq hltq;have hlq:=hltq _ _ (Hp.get_eq _ _ _);clear hltq;try refine zU ?_)|(refine LS.nilQ ?_;try with_reducible intro nq hnq;try refine zU ?_))
    refine zI ?_ ?_<;>intro h2
    · (repeat first|refine zG ?_|(refine LS.nilO ?_;intro nq hnq hltq;try refine zU ?_)|(refine MS.new ?_;intro bq hbq hbqf;try refine zU ?_)|(refine MS.nil ?_;intro nq hnq hltq;have hlq:=hltq _ _ (Hp.get_eq _ _ _);clear hltq;try refine zU ?_)|(refine LS.nilQ ?_;try with_reducible intro nq hnq;try refine zU ?_))
      refine RS.call rfl ((spec_l01Add p (v i) (apk p l v i) (fun x => l (8 * i + x)) _ _ hp (fun q hq => by have := apk_res hp.1 l v i 8 q hq; omega) (fun x hx => hl _ (by omega)) (by omega)).mono ?_)
      rintro r H' n2 hn2 ⟨rfl, rfl⟩
      (repeat first|refine zG ?_|(refine LS.nilO ?_;intro nq hnq hltq;try refine zU ?_)|(refine MS.new ?_;intro bq hbq hbqf;try refine zU ?_)|(refine MS.nil ?_;intro nq hnq hltq;have hlq:=hltq _ _ (Hp.get_eq _ _ _);clear hltq;try refine zU ?_)|(refine LS.nilQ ?_;try with_reducible intro nq hnq;try refine zU ?_))
      exact ⟨by omega, by (repeat first | exact trivial | refine And.intro rfl ?_), Drops.keepc rfl rfl (fun q hq => by rw [apk_step]) (Drops.refl _ _), trivial⟩
    · (repeat first|refine zG ?_|(refine LS.nilO ?_;intro nq hnq hltq;try refine zU ?_)|(refine MS.new ?_;intro bq hbq hbqf;try refine zU ?_)|(refine MS.nil ?_;intro nq hnq hltq;have hlq:=hltq _ _ (Hp.get_eq _ _ _);clear hltq;try refine zU ?_)|(refine LS.nilQ ?_;try with_reducible intro nq hnq;try refine zU ?_))
      exact ⟨by omega, by (repeat first | exact trivial | refine And.intro rfl ?_), by rw [apk_same h2]; exact Drops.refl _ _, trivial⟩
  · have : i = m := by omega
    subst this
    (repeat first|refine zG ?_|(refine LS.nilO ?_;intro nq hnq hltq;try refine zU ?_)|(refine MS.new ?_;intro bq hbq hbqf;try refine zU ?_)|(refine MS.nil ?_;intro nq hnq hltq;have hlq:=hltq _ _ (Hp.get_eq _ _ _);clear hltq;try refine zU ?_)|(refine LS.nilQ ?_;try with_reducible intro nq hnq;try refine zU ?_))
    exact ⟨.arr 8 (bys (apk p l v i)), H, conc_arr (fun q hq => by simp only [Nat.zero_add]), by exact zD, rfl, rfl⟩
/-- spec.l02Counits -/
def ir136 : Cd := (.seq (.reg [⟨some 1,none,.box 46 (.t 0)⟩,⟨some 2,none,.mov (.c (.bool false))⟩]) (.seq (.seq (.reg [⟨some 3,none,.mov (.c (.int .i64 0))⟩]) (.block 0 (.loop (.seq (.seq (.reg [⟨some 9,none,.mov (.t 3)⟩,⟨some 10,none,.fa 1 (.t 1)⟩,⟨some 11,none,.ld none (.t 10)⟩,⟨some 12,none,.bin .lss (.t 9) (.t 11)⟩]) (.cond (.t 12) .skip (.exit 0))) (.seq (.block 1 (.seq (.reg [⟨some 15,none,.build 8 [(8,(.int .u8 0))] []⟩,⟨some 16,none,.build 8 [(8,(.int .u8 0))] []⟩,⟨some 4,none,.new 27 [(8,(.int .u8 0))]⟩,⟨some 5,none,.new 27 [(8,(.int .u8 0))]⟩,⟨none,none,.st 8 (.t 4) (.t 15)⟩,⟨none,none,.st 8 (.t 5) (.t 16)⟩]) (.seq (.seq (.reg [⟨some 6,none,.mov (.c (.int .i64 0))⟩]) (.block 2 (.loop (.seq (.seq (.reg [⟨some 17,none,.mov (.t 6)⟩,⟨some 18,none,.fa 1 (.t 1)⟩,⟨some 19,none,.ld none (.t 18)⟩,⟨some 20,none,.bin .lss (.t 17) (.t 19)⟩]) (.cond (.t 20) .skip (.exit 2))) (.seq (.block 3 (.seq (.drw true [14,15] [⟨some 23,none,.fa 0 (.t 1)⟩,⟨some 24,none,.ld none (.t 23)⟩,⟨some 25,none,.ld (some 8) (.t 4)⟩,⟨some 26,none,.mov (.t 3)⟩,⟨some 27,none,.mov (.t 6)⟩,⟨some 28,none,.fa 10 (.t 1)⟩,⟨some 29,none,.ia 8 64 (.t 28) (.t 26)⟩,⟨some 30,none,.ia 8 8 (.t 29) (.t 27)⟩,⟨some 31,none,.ld (some 8) (.t 30)⟩,⟨some 32,none,.mov (.t 6)⟩,⟨some 33,none,.fa 2 (.t 1)⟩,⟨some 34,none,.ia 8 1 (.t 33) (.t 32)⟩,⟨some 35,none,.ld none (.t 34)⟩,⟨some 36,none,.cv .i64 (.t 35)⟩,⟨some 37,none,.call 47 [(.t 24),(.t 25),(.t 31),(.t 36)]⟩,⟨none,none,.st 8 (.t 4) (.t 37)⟩]) (.seq (.reg [⟨some 7,none,.mov (.c (.int .i64 0))⟩]) (.seq (.seq (.reg [⟨some 8,none,.mov (.c (.int .i64 0))⟩]) (.block 4 (.loop (.seq (.seq (.reg [⟨some 38,none,.mov (.t 8)⟩,⟨some 39,none,.fa 1 (.t 1)⟩,⟨some 40,none,.ld none (.t 39)⟩,⟨some 41,none,.bin .lss (.t 38) (.t 40)⟩]) (.cond (.t 41) .skip (.exit 4))) (.seq (.block 5 (.drw true [] [⟨some 44,none,.mov (.t 7)⟩,⟨some 45,none,.mov (.t 8)⟩,⟨some 46,none,.fa 2 (.t 1)⟩,⟨some 47,none,.ia 8 1 (.t 46) (.t 45)⟩,⟨some 48,none,.ld none (.t 47)⟩,⟨some 49,none,.cv .i64 (.t 48)⟩,⟨some 50,none,.mov (.t 3)⟩,⟨some 51,none,.mov (.t 6)⟩,⟨some 52,none,.mov (.t 8)⟩,⟨some 53,none,.fa 10 (.t 1)⟩,⟨some 54,none,.ia 8 64 (.t 53) (.t 50)⟩,⟨some 55,none,.ia 8 8 (.t 54) (.t 51)⟩,⟨some 56,none,.ia 8 1 (.t 55) (.t 52)⟩,⟨some 57,none,.ld none (.t 56)⟩,⟨some 58,none,.cv .i64 (.t 57)⟩,⟨some 59,none,.bin .mul (.t 49) (.t 58)⟩,⟨some 60,none,.bin .add (.t 44) (.t 59)⟩,⟨some 7,none,.mov (.t 60)⟩])) (.reg [⟨some 42,none,.mov (.t 8)⟩,⟨some 43,none,.bin .add (.t 42) (.c (.int .i64 1))⟩,⟨some 8,none,.mov (.t 43)⟩])))))) (.reg [⟨some 61,none,.mov (.t 6)⟩,⟨some 62,none,.fa 0 (.t 1)⟩,⟨some 63,none,.ld none (.t 62)⟩,⟨some 64,none,.mov (.t 7)⟩,⟨some 65,none,.call 77 [(.t 63),(.t 64)]⟩,⟨some 66,none,.ia 8 1 (.t 5) (.t 61)⟩,⟨none,none,.st 1 (.t 66) (.t 65)⟩]))))) (.reg [⟨some 21,none,.mov (.t 6)⟩,⟨some 22,none,.bin .add (.t 21) (.c (.int .i64 1))⟩,⟨some 6,none,.mov (.t 22)⟩])))))) (.seq (.drw true [] [⟨some 67,none,.ld (some 8) (.t 4)⟩,⟨some 68,none,.mov (.t 3)⟩,⟨some 69,none,.call 31 [(.t 68)]⟩,⟨some 70,none,.eqa true 8 (.t 67) (.t 69)⟩,⟨some 71,none,.mov (.t 70)⟩,⟨some 72,(some (71,false)),.ld (some 8) (.t 5)⟩,⟨some 73,(some (71,false)),.mov (.t 3)⟩,⟨some 74,(some (71,false)),.call 31 [(.t 73)]⟩,⟨some 75,(some (71,false)),.eqa true 8 (.t 72) (.t 74)⟩,⟨some 76,none,.pick (.t 71) (.c (.bool true)) (.t 75)⟩]) (.cond (.t 76) (.seq (.reg [⟨some 2,none,.mov (.c (.bool false))⟩]) .ret) .skip))))) (.reg [⟨some 13,none,.mov (.t 3)⟩,⟨some 14,none,.bin .add (.t 13) (.c (.int .i64 1))⟩,⟨some 3,none,.mov (.t 14)⟩])))))) (.seq (.reg [⟨some 2,none,.mov (.c (.bool true))⟩]) .ret)))
set_option maxRecDepth 100000 in
theorem tr136 : trFn Tryz.prog Tryz.f136 = some (77, ir136, [.tmp 2]) := by kernel_rfl
theorem spec_l02Counits (p : Int) (a : Nat) (e c : Nat → Int) (K : Nat → SV) (H : Hp) (n : Nat) (hp : 2 ≤ p ∧ p ≤ 31) (ha : a ≤ 8)
    (h0 : K 0 = .int .i64 p) (h1 : K 1 = .int .i64 a) (hE : ∀ q, q < 8 → K (2 + q) = .int .u8 (e q)) (hK : ∀ q, q < 512 → K (10 + q) = .int .u8 (c q)) (he : isBy 8 e) (hc : isBy 512 c) (hz : vz a e) :
    FnS Tryz.prog 136 [.arr 522 K] H n (fun r H' _ => r = bl (tb (counits p a e c)) ∧ H' = H) := by
  refine FnS.of_body Tryz.func136 tr136 (by simp) (fun hf => ?_)
  dsimp only [argEnv]
  unfold ir136
  (repeat first|refine zG ?_|(refine LS.nilO ?_;intro nq hnq hltq;try refine zU ?_)|(refine MS.new ?_;intro bq hbq hbqf;try refine zU ?_)|(refine MS.nil ?_;intro nq hnq hltq;have hlq:=hltq _ _ (Hp.get_eq _ _ _);clear hltq;try refine zU ?_)|(refine LS.nilQ ?_;try with_reducible intro nq hnq;try refine zU ?_))
  refine CS.iter a (fun i => [(3, i64 i), (1, ptr n 0)]) (fun _ => (n, ⟨522, K, 46⟩) :: H)
    (fun i => ∀ i' : Nat, i' < i → (∀ q, q < 8 → coL p e c i' a q = bas i' q) ∧ (∀ q, q < 8 → coR p e c i' a q = bas i' q)) (by (repeat first | exact trivial | refine And.intro rfl ?_)) (by exact zD) (fun _ h => by omega) ?_
  intro i n3 hi hn hJ
  (repeat first|refine zG ?_|(refine LS.nilO ?_;intro nq hnq hltq;try refine zU ?_)|(refine MS.new ?_;intro bq hbq hbqf;try refine zU ?_)|(refine MS.nil ?_;intro nq hnq hltq;have hlq:=hltq _ _ (Hp.get_eq _ _ _);clear hltq;try refine zU ?_)|(refine LS.nilQ ?_;try with_reducible intro nq hnq;try refine zU ?_))
  refine zI ?_ ?_<;>intro h2
  · (repeat first|refine zG ?_|(refine LS.nilO ?_;intro nq hnq hltq;try refine zU ?_)|(refine MS.new ?_;intro bq hbq hbqf;try refine zU ?_)|(refine MS.nil ?_;intro nq hnq hltq;have hlq:=hltq _ _ (Hp.get_eq _ _ _);clear hltq;try refine zU ?_)|(refine LS.nilQ ?_;try with_reducible intro nq hnq;try refine zU ?_))
    refine CS.iter a (fun j => [(6, i64 j), (4, ptr n3 0), (5, ptr (n3 + 1) 0), (3, i64 i), (1, ptr n 0)])
      (fun j => (n3 + 1, ⟨8, bys (coR p e c i j), 27⟩) :: (n3, ⟨8, bys (coL p e c i j), 27⟩) :: (n, ⟨522, K, 46⟩) :: H) (fun _ => True) (by (repeat first | exact trivial | refine And.intro rfl ?_))
      (Drops.keepc rfl rfl (fun _ _ => by rw [coR_zero]; rfl) (Drops.keepc rfl rfl (fun _ _ => by rw [coL_zero]; rfl) (Drops.refl _ _))) trivial ?_
    intro j n4 hj hn4 _
    (repeat first|refine zG ?_|(refine LS.nilO ?_;intro nq hnq hltq;try refine zU ?_)|(refine MS.new ?_;intro bq hbq hbqf;try refine zU ?_)|(refine MS.nil ?_;intro nq hnq hltq;have hlq:=hltq _ _ (Hp.get_eq _ _ _);clear hltq;try refine zU ?_)|(refine LS.nilQ ?_;try with_reducible intro nq hnq;try refine zU ?_))
    refine zI ?_ ?_<;>intro h3
    · have hej := he j (by omega)
      (repeat first|refine zG ?_|(refine LS.nilO ?_;intro nq hnq hltq;try refine zU ?_)|(refine MS.new ?_;intro bq hbq hbqf;try refine zU ?_)|(refine MS.nil ?_;intro nq hnq hltq;have hlq:=hltq _ _ (Hp.get_eq _ _ _);clear hltq;try refine zU ?_)|(refine LS.nilQ ?_;try with_reducible intro nq hnq;try refine zU ?_))
      refine RS.call rfl ((spec_l01Add p (e j) (coL p e c i j) (fun x => c (64 * i + 8 * j + x)) _ _ hp (fun q hq => by have := coL_res hp.1 e c i j 8 q hq; omega) (fun x hx => hc _ (by omega)) (by omega)).mono ?_)
      rintro r H n5 hn5 ⟨rfl, rfl⟩
      (repeat first|refine zG ?_|(refine LS.nilO ?_;intro nq hnq hltq;try refine zU ?_)|(refine MS.new ?_;intro bq hbq hbqf;try refine zU ?_)|(refine MS.nil ?_;intro nq hnq hltq;have hlq:=hltq _ _ (Hp.get_eq _ _ _);clear hltq;try refine zU ?_)|(refine LS.nilQ ?_;try with_reducible intro nq hnq;try refine zU ?_))
      refine CS.iter a (fun k => [(8, i64 k), (7, i64 (sm (fun y => e y * c (64 * i + 8 * j + y)) k)), (6, i64 j), (4, ptr n3 0), (5, ptr (n3 + 1) 0), (3, i64 i), (1, ptr n 0)])
        (fun _ => (n3 + 1, ⟨8, bys (coR p e c i j), 27⟩) :: (n3, ⟨8, bys (coL p e c i (j + 1)), 27⟩) :: (n, ⟨522, K, 46⟩) :: H) (fun _ => True) (by (repeat first | exact trivial | refine And.intro rfl ?_))
        (Drops.keepc rfl rfl (fun _ _ => rfl) (Drops.keepc rfl rfl (fun q hq => by rw [coL_step]) (Drops.refl _ _))) trivial ?_
      intro k n6 hk hn6 _
      have hs := sm_b (f := fun y => e y * c (64 * i + 8 * j + y)) (B := 65025) (n := k) (fun q hq => by
        have h1 := he q (by omega)
        have h2 := hc (64 * i + 8 * j + q) (by omega)
        exact mulB h1.1 h1.2 h2.1 h2.2)
      (repeat first|refine zG ?_|(refine LS.nilO ?_;intro nq hnq hltq;try refine zU ?_)|(refine MS.new ?_;intro bq hbq hbqf;try refine zU ?_)|(refine MS.nil ?_;intro nq hnq hltq;have hlq:=hltq _ _ (Hp.get_eq _ _ _);clear hltq;try refine zU ?_)|(refine LS.nilQ ?_;try with_reducible intro nq hnq;try refine zU ?_))
      refine zI ?_ ?_<;>intro h4
      · have hek := he k (by omega)
        have hck := hc (64 * i + 8 * j + k) (by omega)
        have hm := mulB hek.1 hek.2 hck.1 hck.2
        (repeat first|refine zG ?_|(refine LS.nilO ?_;intro nq hnq hltq;try refine zU ?_)|(refine MS.new ?_;intro bq hbq hbqf;try refine zU ?_)|(refine MS.nil ?_;intro nq hnq hltq;have hlq:=hltq _ _ (Hp.get_eq _ _ _);clear hltq;try refine zU ?_)|(refine LS.nilQ ?_;try with_reducible intro nq hnq;try refine zU ?_))
        exact ⟨by omega, by (repeat first | exact trivial | refine And.intro rfl ?_), Drops.refl _ _, trivial⟩
      · have : k = a := by omega
        subst this
        (repeat first|refine zG ?_|(refine LS.nilO ?_;intro nq hnq hltq;try refine zU ?_)|(refine MS.new ?_;intro bq hbq hbqf;try refine zU ?_)|(refine MS.nil ?_;intro nq hnq hltq;have hlq:=hltq _ _ (Hp.get_eq _ _ _);clear hltq;try refine zU ?_)|(refine LS.nilQ ?_;try with_reducible intro nq hnq;try refine zU ?_))
        refine RS.call rfl ((spec_l01Mod p (sm (fun y => e y * c (64 * i + 8 * j + y)) k) _ _ hp.1 hp.2 (by omega)).mono ?_)
        rintro r H n7 hn7 ⟨rfl, rfl⟩
        (repeat first|refine zG ?_|(refine LS.nilO ?_;intro nq hnq hltq;try refine zU ?_)|(refine MS.new ?_;intro bq hbq hbqf;try refine zU ?_)|(refine MS.nil ?_;intro nq hnq hltq;have hlq:=hltq _ _ (Hp.get_eq _ _ _);clear hltq;try refine zU ?_)|(refine LS.nilQ ?_;try with_reducible intro nq hnq;try refine zU ?_))
        refine ⟨by omega, by (repeat first | exact trivial | refine And.intro rfl ?_), Drops.keepc rfl rfl (fun q hq => ?_) (Drops.refl _ _), trivial⟩
        simp only [put1, bys]
        rw [← coR_step, ← dotk_end (show k ≤ 8 by omega) (.inl hz)]
        split <;> rfl
    · have : j = a := by omega
      subst this
      (repeat first|refine zG ?_|(refine LS.nilO ?_;intro nq hnq hltq;try refine zU ?_)|(refine MS.new ?_;intro bq hbq hbqf;try refine zU ?_)|(refine MS.nil ?_;intro nq hnq hltq;have hlq:=hltq _ _ (Hp.get_eq _ _ _);clear hltq;try refine zU ?_)|(refine LS.nilQ ?_;try with_reducible intro nq hnq;try refine zU ?_))
      refine LS.callQ (.arr 8 (bys (bas i))) rfl (fun n' hn' => spec_l01Basis i _ _ (by omega)) ?_
      (repeat first|refine zG ?_|(refine LS.nilO ?_;intro nq hnq hltq;try refine zU ?_)|(refine MS.new ?_;intro bq hbq hbqf;try refine zU ?_)|(refine MS.nil ?_;intro nq hnq hltq;have hlq:=hltq _ _ (Hp.get_eq _ _ _);clear hltq;try refine zU ?_)|(refine LS.nilQ ?_;try with_reducible intro nq hnq;try refine zU ?_))
      refine RS.sp (t := 71) rfl (fun h4 => ?_) (fun h4 => ?_) <;> (try simp only [tb_eq, tb_eqF, decide_eq_true_eq, decide_eq_false_iff_not, beq_iff_eq, bne_iff_ne, ne_eq, Decidable.not_not, beq_eq_false_iff_ne, bne_eq_false_iff_eq, Bool.not_eq_true', Bool.not_eq_false', Bool.not_eq_eq_eq_not, Bool.not_true, Bool.not_false] at h4)
      · (repeat first|refine zG ?_|(refine LS.nilO ?_;intro nq hnq hltq;try refine zU ?_)|(refine MS.new ?_;intro bq hbq hbqf;try refine zU ?_)|(refine MS.nil ?_;intro nq hnq hltq;have hlq:=hltq _ _ (Hp.get_eq _ _ _);clear hltq;try refine zU ?_)|(refine LS.nilQ ?_;try with_reducible intro nq hnq;try refine zU ?_))
        exact ⟨_, H, rfl, by exact zD, by rw [tb_false (fun h => h4 (h i (by omega)).1)], rfl⟩
      · (repeat first|refine zG ?_|(refine LS.nilO ?_;intro nq hnq hltq;try refine zU ?_)|(refine MS.new ?_;intro bq hbq hbqf;try refine zU ?_)|(refine MS.nil ?_;intro nq hnq hltq;have hlq:=hltq _ _ (Hp.get_eq _ _ _);clear hltq;try refine zU ?_)|(refine LS.nilQ ?_;try with_reducible intro nq hnq;try refine zU ?_))
        refine LS.callQ (.arr 8 (bys (bas i))) rfl (fun n' hn' => spec_l01Basis i _ _ (by omega)) ?_
        (repeat first|refine zG ?_|(refine LS.nilO ?_;intro nq hnq hltq;try refine zU ?_)|(refine MS.new ?_;intro bq hbq hbqf;try refine zU ?_)|(refine MS.nil ?_;intro nq hnq hltq;have hlq:=hltq _ _ (Hp.get_eq _ _ _);clear hltq;try refine zU ?_)|(refine LS.nilQ ?_;try with_reducible intro nq hnq;try refine zU ?_))
        refine zI ?_ ?_<;>intro h5
        · (repeat first|refine zG ?_|(refine LS.nilO ?_;intro nq hnq hltq;try refine zU ?_)|(refine MS.new ?_;intro bq hbq hbqf;try refine zU ?_)|(refine MS.nil ?_;intro nq hnq hltq;have hlq:=hltq _ _ (Hp.get_eq _ _ _);clear hltq;try refine zU ?_)|(refine LS.nilQ ?_;try with_reducible intro nq hnq;try refine zU ?_))
          exact ⟨_, H, rfl, by exact zD, by rw [tb_false (fun h => h5 (h i (by omega)).2)], rfl⟩
        · (repeat first|refine zG ?_|(refine LS.nilO ?_;intro nq hnq hltq;try refine zU ?_)|(refine MS.new ?_;intro bq hbq hbqf;try refine zU ?_)|(refine MS.nil ?_;intro nq hnq hltq;have hlq:=hltq _ _ (Hp.get_eq _ _ _);clear hltq;try refine zU ?_)|(refine LS.nilQ ?_;try with_reducible intro nq hnq;try refine zU ?_))
          refine ⟨by omega, by (repeat first | exact trivial | refine And.intro rfl ?_), by exact zD, fun i' hi' => ?_⟩
          by_cases e : i' = i
          · subst e; exact ⟨h4, h5⟩
          · exact hJ i' (by omega)
  · have : i = a := by omega
    subst this
    (repeat first|refine zG ?_|(refine LS.nilO ?_;intro nq hnq hltq;try refine zU ?_)|(refine MS.new ?_;intro bq hbq hbqf;try refine zU ?_)|(refine MS.nil ?_;intro nq hnq hltq;have hlq:=hltq _ _ (Hp.get_eq _ _ _);clear hltq;try refine zU ?_)|(refine LS.nilQ ?_;try with_reducible intro nq hnq;try refine zU ?_))
    exact ⟨_, H, rfl, by exact zD, by rw [tb_true (show counits p i e c from fun i' h => hJ i' h)], rfl⟩
/-- spec.l02Fault -/
def ir135 : Cd := (.seq (.reg [⟨some 1,none,.box 46 (.t 0)⟩,⟨some 2,none,.mov (.c .nils)⟩,⟨some 3,none,.mov (.c (.bool false))⟩]) (.seq (.reg [⟨some 12,none,.fa 1 (.t 1)⟩,⟨some 13,none,.ld none (.t 12)⟩,⟨some 4,none,.mov (.t 13)⟩]) (.seq (.seq (.reg [⟨some 5,none,.mov (.c (.int .i64 0))⟩]) (.block 0 (.loop (.seq (.seq (.reg [⟨some 14,none,.mov (.t 5)⟩,⟨some 15,none,.mov (.t 4)⟩,⟨some 16,none,.mov (.t 4)⟩,⟨some 17,none,.bin .mul (.t 15) (.t 16)⟩,⟨some 18,none,.mov (.t 4)⟩,⟨some 19,none,.bin .mul (.t 17) (.t 18)⟩,⟨some 20,none,.mov (.t 4)⟩,⟨some 21,none,.bin .mul (.t 19) (.t 20)⟩,⟨some 22,none,.bin .lss (.t 14) (.t 21)⟩]) (.cond (.t 22) .skip (.exit 0))) (.seq (.block 1 (.seq (.drw true [] [⟨some 25,none,.mov (.t 5)⟩,⟨some 26,none,.mov (.t 4)⟩,⟨some 27,none,.mov (.t 4)⟩,⟨some 28,none,.bin .mul (.t 26) (.t 27)⟩,⟨some 29,none,.mov (.t 4)⟩,⟨some 30,none,.bin .mul (.t 28) (.t 29)⟩,⟨some 31,none,.bin .quo (.t 25) (.t 30)⟩,⟨some 32,none,.mov (.t 5)⟩,⟨some 33,none,.mov (.t 4)⟩,⟨some 34,none,.mov (.t 4)⟩,⟨some 35,none,.bin .mul (.t 33) (.t 34)⟩,⟨some 36,none,.bin .quo (.t 32) (.t 35)⟩,⟨some 37,none,.mov (.t 4)⟩,⟨some 38,none,.bin .rem (.t 36) (.t 37)⟩,⟨some 39,none,.mov (.t 5)⟩,⟨some 40,none,.mov (.t 4)⟩,⟨some 41,none,.bin .quo (.t 39) (.t 40)⟩,⟨some 42,none,.mov (.t 4)⟩,⟨some 43,none,.bin .rem (.t 41) (.t 42)⟩,⟨some 44,none,.mov (.t 5)⟩,⟨some 45,none,.mov (.t 4)⟩,⟨some 46,none,.bin .rem (.t 44) (.t 45)⟩,⟨some 6,none,.mov (.t 31)⟩,⟨some 7,none,.mov (.t 38)⟩,⟨some 8,none,.mov (.t 43)⟩,⟨some 9,none,.mov (.t 46)⟩]) (.seq (.reg [⟨some 48,none,.ld (some 522) (.t 1)⟩,⟨some 49,none,.mov (.t 6)⟩,⟨some 50,none,.mov (.t 7)⟩,⟨some 51,none,.mov (.t 8)⟩,⟨some 52,none,.mov (.t 9)⟩,⟨some 53,none,.call 142 [(.t 48),(.t 49),(.t 50),(.t 51),(.t 52)]⟩,⟨some 47,none,.mov (.t 53)⟩,⟨some 54,none,.ex (.t 47) 0⟩,⟨some 55,none,.ex (.t 47) 1⟩,⟨some 10,none,.mov (.t 54)⟩,⟨some 11,none,.mov (.t 55)⟩]) (.seq (.reg [⟨some 56,none,.mov (.t 10)⟩,⟨some 57,none,.mov (.t 11)⟩,⟨some 58,none,.bin .neq (.t 56) (.t 57)⟩]) (.cond (.t 58) (.seq (.reg [⟨some 59,none,.mov (.t 6)⟩,⟨some 60,none,.mov (.t 7)⟩,⟨some 61,none,.mov (.t 8)⟩,⟨some 62,none,.mov (.t 9)⟩,⟨some 63,none,.bsl 2 4 1 [(1,(.int .i64 0))] [(0,1,(.t 59)),(1,1,(.t 60)),(2,1,(.t 61)),(3,1,(.t 62))]⟩,⟨some 2,none,.mov (.t 63)⟩,⟨some 3,none,.mov (.c (.bool true))⟩]) .ret) .skip))))) (.reg [⟨some 23,none,.mov (.t 5)⟩,⟨some 24,none,.bin .add (.t 23) (.c (.int .i64 1))⟩,⟨some 5,none,.mov (.t 24)⟩])))))) (.seq (.reg [⟨some 2,none,.mov (.c .nils)⟩,⟨some 3,none,.mov (.c (.bool false))⟩]) .ret))))
set_option maxRecDepth 100000 in
theorem tr135 : trFn Tryz.prog Tryz.f135 = some (64, ir135, [.tmp 2, .tmp 3]) := by kernel_rfl
theorem spec_l02Fault (p : Int) (a : Nat) (c : Nat → Int) (K : Nat → SV) (H : Hp) (n : Nat) (hp : 2 ≤ p ∧ p ≤ 31) (ha1 : 1 ≤ a) (ha : a ≤ 8)
    (h0 : K 0 = .int .i64 p) (h1 : K 1 = .int .i64 a) (hK : ∀ q, q < 512 → K (10 + q) = .int .u8 (c q)) (hc : isBy 512 c) :
    FnS Tryz.prog 135 [.arr 522 K] H n (fun r H' _ => (∃ s, r = .tup [.s s, bl (!tb (coassoc p a c))]) ∧ H' = H) := by
  refine FnS.of_body Tryz.func135 tr135 (by simp) (fun hf => ?_)
  dsimp only [argEnv]
  unfold ir135
  obtain ⟨p2, p3, p4⟩ := pow4 a ha1 ha
  (repeat first|refine zG ?_|(refine LS.nilO ?_;intro nq hnq hltq;try refine zU ?_)|(refine MS.new ?_;intro bq hbq hbqf;try refine zU ?_)|(refine MS.nil ?_;intro nq hnq hltq;have hlq:=hltq _ _ (Hp.get_eq _ _ _);clear hltq;try refine zU ?_)|(refine LS.nilQ ?_;try with_reducible intro nq hnq;try refine zU ?_))
  refine CS.iter (a * a * a * a) (fun t => [(5, i64 t), (4, i64 a), (1, ptr n 0)]) (fun _ => (n, ⟨522, K, 46⟩) :: H)
    (fun t => ∀ t' : Nat, t' < t → cosum1 p c (t' / (a * a * a)) (t' / (a * a) % a) (t' / a % a) (t' % a) a = cosum2 p c (t' / (a * a * a)) (t' / (a * a) % a) (t' / a % a) (t' % a) a) (by (repeat first | exact trivial | refine And.intro rfl ?_)) (Drops.refl _ _) (fun _ h => by omega) ?_
  intro t n1 ht hn hJ
  have ht' : (t : Int) ≤ (a : Int) * a * a * a := by have := Int.ofNat_le.2 ht; simpa only [Int.natCast_mul] using this
  have q1 : 0 ≤ (t : Int) / ((a : Int) * a) ∧ (t : Int) / ((a : Int) * a) ≤ t := ⟨Int.ediv_nonneg (by omega) (by omega), Int.ediv_le_self _ (by omega)⟩
  have q2 : 0 ≤ (t : Int) / (a : Int) ∧ (t : Int) / (a : Int) ≤ t := ⟨Int.ediv_nonneg (by omega) (by omega), Int.ediv_le_self _ (by omega)⟩
  (repeat first|refine zG ?_|(refine LS.nilO ?_;intro nq hnq hltq;try refine zU ?_)|(refine MS.new ?_;intro bq hbq hbqf;try refine zU ?_)|(refine MS.nil ?_;intro nq hnq hltq;have hlq:=hltq _ _ (Hp.get_eq _ _ _);clear hltq;try refine zU ?_)|(refine LS.nilQ ?_;try with_reducible intro nq hnq;try refine zU ?_))
  refine zI ?_ ?_<;>intro h2
  · have htl : t < a * a * a * a := by have h3 : (t : Int) < ((a * a * a * a : Nat) : Int) := by (simp only [Int.natCast_mul]; exact h2)
                                       exact Int.ofNat_lt.1 h3
    obtain ⟨i1, i2, i3, i4⟩ := idx4 a t ha1 htl
    (repeat first|refine zG ?_|(refine LS.nilO ?_;intro nq hnq hltq;try refine zU ?_)|(refine MS.new ?_;intro bq hbq hbqf;try refine zU ?_)|(refine MS.nil ?_;intro nq hnq hltq;have hlq:=hltq _ _ (Hp.get_eq _ _ _);clear hltq;try refine zU ?_)|(refine LS.nilQ ?_;try with_reducible intro nq hnq;try refine zU ?_))
    refine RS.call rfl ((FnS.args (concs_cons (conc_arr (fun q hq => rfl)) rfl) (spec_l02Sums p a (t / (a * a * a)) (t / (a * a) % a) (t / a % a) (t % a) _ _ _ _ c K _ _ hp ha ⟨i1, by push_cast; rfl⟩ ⟨i2, by push_cast; rfl⟩ ⟨i3, by push_cast; rfl⟩ ⟨i4, by push_cast; rfl⟩ h0 h1 hK hc)).mono ?_)
    rintro r H n2 hn2 ⟨rfl, rfl⟩
    (repeat first|refine zG ?_|(refine LS.nilO ?_;intro nq hnq hltq;try refine zU ?_)|(refine MS.new ?_;intro bq hbq hbqf;try refine zU ?_)|(refine MS.nil ?_;intro nq hnq hltq;have hlq:=hltq _ _ (Hp.get_eq _ _ _);clear hltq;try refine zU ?_)|(refine LS.nilQ ?_;try with_reducible intro nq hnq;try refine zU ?_))
    refine zI ?_ ?_<;>intro h3
    · (repeat first|refine zG ?_|(refine LS.nilO ?_;intro nq hnq hltq;try refine zU ?_)|(refine MS.new ?_;intro bq hbq hbqf;try refine zU ?_)|(refine MS.nil ?_;intro nq hnq hltq;have hlq:=hltq _ _ (Hp.get_eq _ _ _);clear hltq;try refine zU ?_)|(refine LS.nilQ ?_;try with_reducible intro nq hnq;try refine zU ?_))
      exact ⟨_, H, rfl, by exact zD, ⟨_, by rw [tb_false (fun h : coassoc p a c => h3 (h t htl))]; rfl⟩, rfl⟩
    · (repeat first|refine zG ?_|(refine LS.nilO ?_;intro nq hnq hltq;try refine zU ?_)|(refine MS.new ?_;intro bq hbq hbqf;try refine zU ?_)|(refine MS.nil ?_;intro nq hnq hltq;have hlq:=hltq _ _ (Hp.get_eq _ _ _);clear hltq;try refine zU ?_)|(refine LS.nilQ ?_;try with_reducible intro nq hnq;try refine zU ?_))
      refine ⟨by omega, by (repeat first | exact trivial | refine And.intro rfl ?_), Drops.refl _ _, fun t' ht' => ?_⟩
      by_cases e : t' = t
      · subst e; exact h3
      · exact hJ t' (by omega)
  · have : t = a * a * a * a := by
      have h3 : ¬(t : Int) < ((a * a * a * a : Nat) : Int) := by (simp only [Int.natCast_mul]; exact h2)
      have : ¬ t < a * a * a * a := fun h => h3 (Int.ofNat_lt.2 h)
      omega
    subst this
    (repeat first|refine zG ?_|(refine LS.nilO ?_;intro nq hnq hltq;try refine zU ?_)|(refine MS.new ?_;intro bq hbq hbqf;try refine zU ?_)|(refine MS.nil ?_;intro nq hnq hltq;have hlq:=hltq _ _ (Hp.get_eq _ _ _);clear hltq;try refine zU ?_)|(refine LS.nilQ ?_;try with_reducible intro nq hnq;try refine zU ?_))
    exact ⟨_, H, rfl, by exact zD, ⟨_, by rw [tb_true (show coassoc p a c from fun t' ht' => hJ t' ht')]; rfl⟩, rfl⟩
/-- spec.l03Coproduct -/
def ir94 : Cd := (.seq (.reg [⟨some 2,none,.box 35 (.t 0)⟩,⟨some 3,none,.box 27 (.t 1)⟩,⟨some 4,none,.new 29 [(64,(.int .u8 0))]⟩]) (.seq (.reg [⟨some 8,none,.build 64 [(64,(.int .u8 0))] []⟩,⟨some 5,none,.new 29 [(64,(.int .u8 0))]⟩,⟨none,none,.st 64 (.t 5) (.t 8)⟩]) (.seq (.seq (.reg [⟨some 6,none,.mov (.c (.int .i64 0))⟩]) (.block 0 (.loop (.seq (.seq (.reg [⟨some 9,none,.mov (.t 6)⟩,⟨some 10,none,.fa 1 (.t 2)⟩,⟨some 11,none,.ld none (.t 10)⟩,⟨some 12,none,.bin .lss (.t 9) (.t 11)⟩]) (.cond (.t 12) .skip (.exit 0))) (.seq (.block 1 (.seq (.reg [⟨some 7,none,.mov (.c (.int .i64 0))⟩]) (.block 2 (.loop (.seq (.seq (.reg [⟨some 15,none,.mov (.t 7)⟩,⟨some 16,none,.fa 1 (.t 2)⟩,⟨some 17,none,.ld none (.t 16)⟩,⟨some 18,none,.bin .lss (.t 15) (.t 17)⟩,⟨some 19,none,.mov (.t 18)⟩,⟨some 20,(some (19,true)),.mov (.t 6)⟩,⟨some 21,(some (19,true)),.ia 8 1 (.t 3) (.t 20)⟩,⟨some 22,(some (19,true)),.ld none (.t 21)⟩,⟨some 23,(some (19,true)),.bin .neq (.t 22) (.c (.int .u8 0))⟩,⟨some 24,none,.pick (.t 19) (.t 23) (.c (.bool false))⟩]) (.cond (.t 24) .skip (.exit 2))) (.seq (.block 3 (.drw true [18] [⟨some 27,none,.mov (.t 7)⟩,⟨some 28,none,.fa 0 (.t 2)⟩,⟨some 29,none,.ld none (.t 28)⟩,⟨some 30,none,.mov (.t 7)⟩,⟨some 31,none,.ia 8 8 (.t 5) (.t 30)⟩,⟨some 32,none,.ld (some 8) (.t 31)⟩,⟨some 33,none,.mov (.t 6)⟩,⟨some 34,none,.mov (.t 7)⟩,⟨some 35,none,.fa 530 (.t 2)⟩,⟨some 36,none,.ia 8 64 (.t 35) (.t 33)⟩,⟨some 37,none,.ia 8 8 (.t 36) (.t 34)⟩,⟨some 38,none,.ld (some 8) (.t 37)⟩,⟨some 39,none,.mov (.t 6)⟩,⟨some 40,none,.ia 8 1 (.t 3) (.t 39)⟩,⟨some 41,none,.ld none (.t 40)⟩,⟨some 42,none,.cv .i64 (.t 41)⟩,⟨some 43,none,.call 47 [(.t 29),(.t 32),(.t 38),(.t 42)]⟩,⟨some 44,none,.ia 8 8 (.t 5) (.t 27)⟩,⟨none,none,.st 8 (.t 44) (.t 43)⟩])) (.reg [⟨some 25,none,.mov (.t 7)⟩,⟨some 26,none,.bin .add (.t 25) (.c (.int .i64 1))⟩,⟨some 7,none,.mov (.t 26)⟩]))))))) (.reg [⟨some 13,none,.mov (.t 6)⟩,⟨some 14,none,.bin .add (.t 13) (.c (.int .i64 1))⟩,⟨some 6,none,.mov (.t 14)⟩])))))) (.seq (.reg [⟨some 45,none,.ld (some 64) (.t 5)⟩,⟨none,none,.st 64 (.t 4) (.t 45)⟩]) .ret))))
set_option maxRecDepth 100000 in
theorem tr94 : trFn Tryz.prog Tryz.f94 = some (46, ir94, [.cell (some 64) 4]) := by kernel_rfl
theorem spec_l03Coproduct (h : HT) (a : Nat) (v : Nat → Int) (K : Nat → SV) (H : Hp) (n : Nat) (hS : HS h a) (hK : h.At K) (hB : h.By) (hv : isBy 8 v) :
    FnS Tryz.prog 94 [.arr 1106 K, .arr 8 (bys v)] H n (fun r H' _ => r = .arr 64 (bys (cps h.p h.c v 8)) ∧ H' = H) := by
  have hp := hS.hp
  have ha := hS.ha
  have hk0 := hK.p
  have hk1 := hK.n
  rw [hS.hn] at hk1
  have hk5 := hK.c
  refine FnS.of_body Tryz.func94 tr94 (by simp) (fun hf => ?_)
  dsimp only [argEnv]
  unfold ir94
  (repeat first|refine zG ?_|(refine LS.nilO ?_;intro nq hnq hltq;try refine zU ?_)|(refine MS.new ?_;intro bq hbq hbqf;try refine zU ?_)|(refine MS.nil ?_;intro nq hnq hltq;have hlq:=hltq _ _ (Hp.get_eq _ _ _);clear hltq;try refine zU ?_)|(refine LS.nilQ ?_;try with_reducible intro nq hnq;try refine zU ?_))
  refine CS.iter a (fun i => [(6, i64 i), (2, ptr n 0), (3, ptr (n + 1) 0), (4, ptr (n + 2) 0), (5, ptr (n + 3) 0)])
    (fun i => (n + 3, ⟨64, bys (cps h.p h.c v i), 29⟩) :: (n + 2, ⟨64, bys (fun _ => 0), 29⟩) :: (n + 1, ⟨8, bys v, 27⟩) :: (n, ⟨1106, K, 35⟩) :: H) (fun _ => True) (by (repeat first | exact trivial | refine And.intro rfl ?_))
    (Drops.keepc rfl rfl (fun _ _ => by rw [cps_zero]; rfl) (Drops.keepc rfl rfl (fun _ _ => rfl) (Drops.refl _ _))) trivial ?_
  intro i n3 hi hn _
  (repeat first|refine zG ?_|(refine LS.nilO ?_;intro nq hnq hltq;try refine zU ?_)|(refine MS.new ?_;intro bq hbq hbqf;try refine zU ?_)|(refine MS.nil ?_;intro nq hnq hltq;have hlq:=hltq _ _ (Hp.get_eq _ _ _);clear hltq;try refine zU ?_)|(refine LS.nilQ ?_;try with_reducible intro nq hnq;try refine zU ?_))
  refine zI ?_ ?_<;>intro h2
  · have hvi := hv i (by omega)
    (repeat first|refine zG ?_|(refine LS.nilO ?_;intro nq hnq hltq;try refine zU ?_)|(refine MS.new ?_;intro bq hbq hbqf;try refine zU ?_)|(refine MS.nil ?_;intro nq hnq hltq;have hlq:=hltq _ _ (Hp.get_eq _ _ _);clear hltq;try refine zU ?_)|(refine LS.nilQ ?_;try with_reducible intro nq hnq;try refine zU ?_))
    refine CS.iter a (fun j => [(7, i64 j), (6, i64 i), (2, ptr n 0), (3, ptr (n + 1) 0), (4, ptr (n + 2) 0), (5, ptr (n + 3) 0)])
      (fun j => (n + 3, ⟨64, bys (rowsTo (cps h.p h.c v i) (cps h.p h.c v (i + 1)) j), 29⟩) :: (n + 2, ⟨64, bys (fun _ => 0), 29⟩) :: (n + 1, ⟨8, bys v, 27⟩) :: (n, ⟨1106, K, 35⟩) :: H) (fun _ => True) (by (repeat first | exact trivial | refine And.intro rfl ?_))
      (Drops.keepc rfl rfl (fun _ _ => by rw [rowsTo_zero]) (Drops.refl _ _)) trivial ?_
    intro j n4 hj hn4 _
    (repeat first|refine zG ?_|(refine LS.nilO ?_;intro nq hnq hltq;try refine zU ?_)|(refine MS.new ?_;intro bq hbq hbqf;try refine zU ?_)|(refine MS.nil ?_;intro nq hnq hltq;have hlq:=hltq _ _ (Hp.get_eq _ _ _);clear hltq;try refine zU ?_)|(refine LS.nilQ ?_;try with_reducible intro nq hnq;try refine zU ?_))
    refine RS.sp (t := 19) rfl (fun h3 => ?_) (fun h3 => ?_) <;> (try simp only [tb_eq, tb_eqF, decide_eq_true_eq, decide_eq_false_iff_not, beq_iff_eq, bne_iff_ne, ne_eq, Decidable.not_not, beq_eq_false_iff_ne, bne_eq_false_iff_eq, Bool.not_eq_true', Bool.not_eq_false', Bool.not_eq_eq_eq_not, Bool.not_true, Bool.not_false] at h3)
    · (repeat first|refine zG ?_|(refine LS.nilO ?_;intro nq hnq hltq;try refine zU ?_)|(refine MS.new ?_;intro bq hbq hbqf;try refine zU ?_)|(refine MS.nil ?_;intro nq hnq hltq;have hlq:=hltq _ _ (Hp.get_eq _ _ _);clear hltq;try refine zU ?_)|(refine LS.nilQ ?_;try with_reducible intro nq hnq;try refine zU ?_))
      refine zI ?_ ?_<;>intro h4
      · have hr : ∀ q, q < 8 → (bys (rowsTo (cps h.p h.c v i) (cps h.p h.c v (i + 1)) j)) (8 * j + q) = .int .u8 (cps h.p h.c v i (8 * j + q)) := fun y hy => by simp only [bys, rowsTo]; rw [if_neg (by omega)]
        (repeat first|refine zG ?_|(refine LS.nilO ?_;intro nq hnq hltq;try refine zU ?_)|(refine MS.new ?_;intro bq hbq hbqf;try refine zU ?_)|(refine MS.nil ?_;intro nq hnq hltq;have hlq:=hltq _ _ (Hp.get_eq _ _ _);clear hltq;try refine zU ?_)|(refine LS.nilQ ?_;try with_reducible intro nq hnq;try refine zU ?_))
        refine LS.callQ (.arr 8 (bys (pl h.p (fun y => cps h.p h.c v i (8 * j + y)) (v i) (fun y => h.c (64 * i + 8 * j + y))))) rfl (fun n' hn' => spec_l01Add h.p (v i) (fun y => cps h.p h.c v i (8 * j + y)) (fun y => h.c (64 * i + 8 * j + y)) _ _ hp (fun y hy => (cps_res hp.1 h.c v i 64).by hp.2 _ (by omega)) (fun x hx => hB.c _ (by omega)) (by omega)) ?_
        (repeat first|refine zG ?_|(refine LS.nilO ?_;intro nq hnq hltq;try refine zU ?_)|(refine MS.new ?_;intro bq hbq hbqf;try refine zU ?_)|(refine MS.nil ?_;intro nq hnq hltq;have hlq:=hltq _ _ (Hp.get_eq _ _ _);clear hltq;try refine zU ?_)|(refine LS.nilQ ?_;try with_reducible intro nq hnq;try refine zU ?_))
        exact ⟨by omega, by (repeat first | exact trivial | refine And.intro rfl ?_), Drops.keepc rfl rfl (fun q hq => rowsTo_step (fun y hy => cps_row _ _ _ _ _ _) q) (Drops.refl _ _), trivial⟩
      · (repeat first|refine zG ?_|(refine LS.nilO ?_;intro nq hnq hltq;try refine zU ?_)|(refine MS.new ?_;intro bq hbq hbqf;try refine zU ?_)|(refine MS.nil ?_;intro nq hnq hltq;have hlq:=hltq _ _ (Hp.get_eq _ _ _);clear hltq;try refine zU ?_)|(refine LS.nilQ ?_;try with_reducible intro nq hnq;try refine zU ?_))
        exact ⟨by omega, by (repeat first | exact trivial | refine And.intro rfl ?_), Drops.keepc rfl rfl (fun q hq => by simp only [bys, rowsTo]; rw [cps_same h4]; split <;> rfl) (Drops.refl _ _), trivial⟩
    · have : j = a := by omega
      subst this
      (repeat first|refine zG ?_|(refine LS.nilO ?_;intro nq hnq hltq;try refine zU ?_)|(refine MS.new ?_;intro bq hbq hbqf;try refine zU ?_)|(refine MS.nil ?_;intro nq hnq hltq;have hlq:=hltq _ _ (Hp.get_eq _ _ _);clear hltq;try refine zU ?_)|(refine LS.nilQ ?_;try with_reducible intro nq hnq;try refine zU ?_))
      exact ⟨by omega, by (repeat first | exact trivial | refine And.intro rfl ?_), Drops.keepc rfl rfl (fun q hq => by simp only [bys]; rw [rowsTo_all (fun q h1 h2 => cps_out hS.cm (by omega) h1 h2) hq]) (Drops.refl _ _), trivial⟩
  · have : i = a := by omega
    subst this
    (repeat first|refine zG ?_|(refine LS.nilO ?_;intro nq hnq hltq;try refine zU ?_)|(refine MS.new ?_;intro bq hbq hbqf;try refine zU ?_)|(refine MS.nil ?_;intro nq hnq hltq;have hlq:=hltq _ _ (Hp.get_eq _ _ _);clear hltq;try refine zU ?_)|(refine LS.nilQ ?_;try with_reducible intro nq hnq;try refine zU ?_))
    exact ⟨.arr 64 (bys (cps h.p h.c v 8)), H, conc_arr (fun q hq => by simp only [Nat.zero_add, bys]; rw [← cps_end hS.cm ha hq]), by exact zD, rfl, rfl⟩
/-- (*impl.Hopf).product -/
def ir32 : Cd := (.seq (.reg [⟨some 4,none,.box 27 (.t 1)⟩,⟨some 5,none,.box 27 (.t 2)⟩,⟨some 6,none,.new 27 [(8,(.int .u8 0))]⟩]) (.seq (.reg [⟨some 11,none,.mov (.t 0)⟩,⟨some 12,none,.call 49 [(.t 11)]⟩,⟨some 13,none,.build 8 [(8,(.int .u8 0))] []⟩,⟨some 7,none,.new 85 [(2,(.int .i64 0))]⟩,⟨some 8,none,.new 27 [(8,(.int .u8 0))]⟩,⟨none,none,.st 2 (.t 7) (.t 12)⟩,⟨none,none,.st 8 (.t 8) (.t 13)⟩]) (.seq (.seq (.reg [⟨some 14,none,.fa 1 (.t 7)⟩,⟨some 15,none,.ld none (.t 14)⟩,⟨some 16,none,.mov (.c (.int .i64 0))⟩]) (.block 0 (.loop (.seq (.reg [⟨some 17,none,.bin .lss (.t 16) (.t 15)⟩]) (.seq (.cond (.t 17) .skip (.exit 0)) (.seq (.block 1 (.seq (.reg [⟨some 18,none,.mov (.t 16)⟩,⟨some 9,none,.mov (.t 18)⟩]) (.seq (.seq (.reg [⟨some 19,none,.mov (.t 9)⟩,⟨some 20,none,.ia 8 1 (.t 4) (.t 19)⟩,⟨some 21,none,.ld none (.t 20)⟩,⟨some 22,none,.bin .eql (.t 21) (.c (.int .u8 0))⟩]) (.cond (.t 22) (.exit 1) .skip)) (.seq (.reg [⟨some 23,none,.fa 1 (.t 7)⟩,⟨some 24,none,.ld none (.t 23)⟩,⟨some 25,none,.mov (.c (.int .i64 0))⟩]) (.block 2 (.loop (.seq (.reg [⟨some 26,none,.bin .lss (.t 25) (.t 24)⟩]) (.seq (.cond (.t 26) .skip (.exit 2)) (.seq (.block 3 (.seq (.reg [⟨some 27,none,.mov (.t 25)⟩,⟨some 10,none,.mov (.t 27)⟩]) (.drw true [18] [⟨some 28,none,.ld (some 2) (.t 7)⟩,⟨some 29,none,.mov (.t 9)⟩,⟨some 30,none,.ia 8 1 (.t 4) (.t 29)⟩,⟨some 31,none,.ld none (.t 30)⟩,⟨some 32,none,.cv .i64 (.t 31)⟩,⟨some 33,none,.mov (.t 10)⟩,⟨some 34,none,.ia 8 1 (.t 5) (.t 33)⟩,⟨some 35,none,.ld none (.t 34)⟩,⟨some 36,none,.cv .i64 (.t 35)⟩,⟨some 37,none,.bin .mul (.t 32) (.t 36)⟩,⟨some 38,none,.mov (.t 0)⟩,⟨some 39,none,.mov (.t 9)⟩,⟨some 40,none,.mov (.t 10)⟩,⟨some 41,none,.ck (.t 38)⟩,⟨some 42,none,.fa 10 (.t 41)⟩,⟨some 43,none,.ia 8 64 (.t 42) (.t 39)⟩,⟨some 44,none,.ia 8 8 (.t 43) (.t 40)⟩,⟨some 45,none,.ld (some 8) (.t 44)⟩,⟨some 46,none,.call 50 [(.t 28),(.t 8),(.t 37),(.t 45)]⟩]))) (.reg [⟨some 47,none,.bin .add (.t 25) (.c (.int .i64 1))⟩,⟨some 25,none,.mov (.t 47)⟩])))))))))) (.reg [⟨some 48,none,.bin .add (.t 16) (.c (.int .i64 1))⟩,⟨some 16,none,.mov (.t 48)⟩]))))))) (.seq (.reg [⟨some 49,none,.ld (some 8) (.t 8)⟩,⟨none,none,.st 8 (.t 6) (.t 49)⟩]) .ret))))
set_option maxRecDepth 100000 in
theorem tr32 : trFn Tryz.prog Tryz.f32 = some (50, ir32, [.cell (some 8) 6]) := by kernel_rfl
theorem Hopf_product (h : HT) (a : Nat) (v w : Nat → Int) (b : Nat) (K : Blk) (H : Hp) (n : Nat) (hS : HS h a) (hb : H.get b = some K) (hsz : K.size = 1106) (hK : h.At K.c) (hB : h.By) (hv : isBy 8 v) (hw : isBy 8 w) :
    FnS Tryz.prog 32 [ptr b 0, .arr 8 (bys v), .arr 8 (bys w)] H n (fun r H' _ => r = .arr 8 (bys (pr h.p h.m v w a)) ∧ H' = H) := by
  have hp := hS.hp
  have ha := hS.ha
  have hk1 := hK.n
  rw [hS.hn] at hk1
  have hk5 := hK.m
  refine FnS.of_body Tryz.func32 tr32 (by simp) (fun hf => ?_)
  dsimp only [argEnv]
  unfold ir32
  have hbn := getlt hf hb
  (repeat first|refine zG ?_|(refine LS.nilO ?_;intro nq hnq hltq;try refine zU ?_)|(refine MS.new ?_;intro bq hbq hbqf;try refine zU ?_)|(refine MS.nil ?_;intro nq hnq hltq;have hlq:=hltq _ _ (Hp.get_eq _ _ _);clear hltq;try refine zU ?_)|(refine LS.nilQ ?_;try with_reducible intro nq hnq;try refine zU ?_))
  refine RS.call rfl ((Hopf_field h.p a b K _ _ (by exact zH) hsz hK.p hk1 (by omega)).mono ?_)
  rintro r H n2 hn2 ⟨rfl, rfl⟩
  (repeat first|refine zG ?_|(refine LS.nilO ?_;intro nq hnq hltq;try refine zU ?_)|(refine MS.new ?_;intro bq hbq hbqf;try refine zU ?_)|(refine MS.nil ?_;intro nq hnq hltq;have hlq:=hltq _ _ (Hp.get_eq _ _ _);clear hltq;try refine zU ?_)|(refine LS.nilQ ?_;try with_reducible intro nq hnq;try refine zU ?_))
  refine CS.iter a (fun i => [(16, i64 i), (15, i64 a), (0, ptr b 0), (4, ptr n 0), (5, ptr (n + 1) 0), (6, ptr (n + 2) 0), (7, ptr n2 0), (8, ptr (n2 + 1) 0)])
    (fun i => (n2 + 1, ⟨8, bys (pk h.p h.m v w a i 0), 27⟩) :: (n2, ⟨2, fldC h.p a, 85⟩) :: (n + 2, ⟨8, bys (fun _ => 0), 27⟩) :: (n + 1, ⟨8, bys w, 27⟩) :: (n, ⟨8, bys v, 27⟩) :: H) (fun _ => True) (by (repeat first | exact trivial | refine And.intro rfl ?_))
    (Drops.keepc rfl rfl (fun _ _ => by rw [pk_zero]; rfl) (Drops.keepc rfl rfl (fun _ _ => rfl) (Drops.keepc rfl rfl (fun _ _ => rfl) (Drops.refl _ _)))) trivial ?_
  intro i n3 hi hn _
  (repeat first|refine zG ?_|(refine LS.nilO ?_;intro nq hnq hltq;try refine zU ?_)|(refine MS.new ?_;intro bq hbq hbqf;try refine zU ?_)|(refine MS.nil ?_;intro nq hnq hltq;have hlq:=hltq _ _ (Hp.get_eq _ _ _);clear hltq;try refine zU ?_)|(refine LS.nilQ ?_;try with_reducible intro nq hnq;try refine zU ?_))
  refine zI ?_ ?_<;>intro h2
  · have hvi := hv i (by omega)
    (repeat first|refine zG ?_|(refine LS.nilO ?_;intro nq hnq hltq;try refine zU ?_)|(refine MS.new ?_;intro bq hbq hbqf;try refine zU ?_)|(refine MS.nil ?_;intro nq hnq hltq;have hlq:=hltq _ _ (Hp.get_eq _ _ _);clear hltq;try refine zU ?_)|(refine LS.nilQ ?_;try with_reducible intro nq hnq;try refine zU ?_))
    refine zI ?_ ?_<;>intro h3
    · (repeat first|refine zG ?_|(refine LS.nilO ?_;intro nq hnq hltq;try refine zU ?_)|(refine MS.new ?_;intro bq hbq hbqf;try refine zU ?_)|(refine MS.nil ?_;intro nq hnq hltq;have hlq:=hltq _ _ (Hp.get_eq _ _ _);clear hltq;try refine zU ?_)|(refine LS.nilQ ?_;try with_reducible intro nq hnq;try refine zU ?_))
      exact ⟨by omega, by (repeat first | exact trivial | refine And.intro rfl ?_), by rw [pk_skip h3]; exact Drops.refl _ _, trivial⟩
    · (repeat first|refine zG ?_|(refine LS.nilO ?_;intro nq hnq hltq;try refine zU ?_)|(refine MS.new ?_;intro bq hbq hbqf;try refine zU ?_)|(refine MS.nil ?_;intro nq hnq hltq;have hlq:=hltq _ _ (Hp.get_eq _ _ _);clear hltq;try refine zU ?_)|(refine LS.nilQ ?_;try with_reducible intro nq hnq;try refine zU ?_))
      refine CS.iter a (fun j => [(25, i64 j), (24, i64 a), (9, i64 i), (16, i64 i), (15, i64 a), (0, ptr b 0), (4, ptr n 0), (5, ptr (n + 1) 0), (6, ptr (n + 2) 0), (7, ptr n2 0), (8, ptr (n2 + 1) 0)])
        (fun j => (n2 + 1, ⟨8, bys (pk h.p h.m v w a i j), 27⟩) :: (n2, ⟨2, fldC h.p a, 85⟩) :: (n + 2, ⟨8, bys (fun _ => 0), 27⟩) :: (n + 1, ⟨8, bys w, 27⟩) :: (n, ⟨8, bys v, 27⟩) :: H) (fun _ => True) (by (repeat first | exact trivial | refine And.intro rfl ?_))
        (Drops.refl _ _) trivial ?_
      intro j n4 hj hn4 _
      (repeat first|refine zG ?_|(refine LS.nilO ?_;intro nq hnq hltq;try refine zU ?_)|(refine MS.new ?_;intro bq hbq hbqf;try refine zU ?_)|(refine MS.nil ?_;intro nq hnq hltq;have hlq:=hltq _ _ (Hp.get_eq _ _ _);clear hltq;try refine zU ?_)|(refine LS.nilQ ?_;try with_reducible intro nq hnq;try refine zU ?_))
      refine zI ?_ ?_<;>intro h4
      · have hwj := hw j (by omega)
        have hvw := mulB hvi.1 hvi.2 hwj.1 hwj.2
        (repeat first|refine zG ?_|(refine LS.nilO ?_;intro nq hnq hltq;try refine zU ?_)|(refine MS.new ?_;intro bq hbq hbqf;try refine zU ?_)|(refine MS.nil ?_;intro nq hnq hltq;have hlq:=hltq _ _ (Hp.get_eq _ _ _);clear hltq;try refine zU ?_)|(refine LS.nilQ ?_;try with_reducible intro nq hnq;try refine zU ?_))
        refine RS.call rfl ((field_plus h.p a (v i * w j) (pk h.p h.m v w a i j) (fun x => h.m (64 * i + 8 * j + x)) (n2 + 1) 0 ⟨8, bys (pk h.p h.m v w a i j), 27⟩ _ _ hp (by exact zH) (by simp) (fun _ _ => by rw [Nat.zero_add]; rfl) (pk_res hp.1 _ _ _ _ _ _ _) (hB.rowm (by omega) (by omega)) (by omega)).mono ?_)
        rintro r H' n5 hn5 ⟨rfl, rfl⟩
        simp (disch := omega) only [Hp.set_eq, Hp.set_ne]
        (repeat first|refine zG ?_|(refine LS.nilO ?_;intro nq hnq hltq;try refine zU ?_)|(refine MS.new ?_;intro bq hbq hbqf;try refine zU ?_)|(refine MS.nil ?_;intro nq hnq hltq;have hlq:=hltq _ _ (Hp.get_eq _ _ _);clear hltq;try refine zU ?_)|(refine LS.nilQ ?_;try with_reducible intro nq hnq;try refine zU ?_))
        exact ⟨by omega, by (repeat first | exact trivial | refine And.intro rfl ?_), Drops.keepc rfl rfl (fun q hq => (splice_all _ _ 8 q hq).trans (by rw [pk_step])) (Drops.refl _ _), trivial⟩
      · have : j = a := by omega
        subst this
        (repeat first|refine zG ?_|(refine LS.nilO ?_;intro nq hnq hltq;try refine zU ?_)|(refine MS.new ?_;intro bq hbq hbqf;try refine zU ?_)|(refine MS.nil ?_;intro nq hnq hltq;have hlq:=hltq _ _ (Hp.get_eq _ _ _);clear hltq;try refine zU ?_)|(refine LS.nilQ ?_;try with_reducible intro nq hnq;try refine zU ?_))
        exact ⟨by omega, by (repeat first | exact trivial | refine And.intro rfl ?_), by rw [pk_row]; exact Drops.refl _ _, trivial⟩
  · have : i = a := by omega
    subst this
    (repeat first|refine zG ?_|(refine LS.nilO ?_;intro nq hnq hltq;try refine zU ?_)|(refine MS.new ?_;intro bq hbq hbqf;try refine zU ?_)|(refine MS.nil ?_;intro nq hnq hltq;have hlq:=hltq _ _ (Hp.get_eq _ _ _);clear hltq;try refine zU ?_)|(refine LS.nilQ ?_;try with_reducible intro nq hnq;try refine zU ?_))
    exact ⟨.arr 8 (bys (pr h.p h.m v w i)), _, conc_arr (fun q hq => by first | rfl | (simp only [Nat.zero_add]; done) | (simp only [Nat.zero_add]; rfl)), by exact zD, rfl, rfl⟩
/-- laws.toTable -/
def ir23 : Cd := (.seq (.reg [⟨some 1,none,.box 24 (.t 0)⟩,⟨some 2,none,.new 33 [(512,(.int .u8 0))]⟩]) (.seq (.reg [⟨some 3,none,.new 33 [(512,(.int .u8 0))]⟩]) (.seq (.seq (.reg [⟨some 4,none,.mov (.c (.int .i64 0))⟩]) (.block 0 (.loop (.seq (.seq (.reg [⟨some 5,none,.mov (.t 4)⟩,⟨some 6,none,.bin .lss (.t 5) (.c (.int .i64 8))⟩]) (.cond (.t 6) .skip (.exit 0))) (.seq (.block 1 (.reg [⟨some 9,none,.mov (.t 4)⟩,⟨some 10,none,.mov (.t 4)⟩,⟨some 11,none,.ia 8 64 (.t 1) (.t 10)⟩,⟨some 12,none,.ld (some 64) (.t 11)⟩,⟨some 13,none,.call 9 [(.t 12)]⟩,⟨some 14,none,.ia 8 64 (.t 3) (.t 9)⟩,⟨none,none,.st 64 (.t 14) (.t 13)⟩])) (.reg [⟨some 7,none,.mov (.t 4)⟩,⟨some 8,none,.bin .add (.t 7) (.c (.int .i64 1))⟩,⟨some 4,none,.mov (.t 8)⟩])))))) (.seq (.reg [⟨some 15,none,.ld (some 512) (.t 3)⟩,⟨none,none,.st 512 (.t 2) (.t 15)⟩]) .ret))))
set_option maxRecDepth 100000 in
theorem tr23 : trFn Tryz.prog Tryz.f23 = some (16, ir23, [.cell (some 512) 2]) := by kernel_rfl
theorem laws_toTable (t : Nat → Int) (H : Hp) (n : Nat) :
    FnS Tryz.prog 23 [.arr 512 (bys t)] H n (fun r H' _ => r = .arr 512 (bys t) ∧ H' = H) := by
  refine FnS.of_body Tryz.func23 tr23 (by simp) (fun hf => ?_)
  dsimp only [argEnv]
  unfold ir23
  (repeat first|refine zG ?_|(refine LS.nilO ?_;intro nq hnq hltq;try refine zU ?_)|(refine MS.new ?_;intro bq hbq hbqf;try refine zU ?_)|(refine MS.nil ?_;intro nq hnq hltq;have hlq:=hltq _ _ (Hp.get_eq _ _ _);clear hltq;try refine zU ?_)|(refine LS.nilQ ?_;try with_reducible intro nq hnq;try refine zU ?_))
  refine CS.iter 8 (fun i => [(4, i64 i), (1, ptr n 0), (2, ptr (n + 1) 0), (3, ptr (n + 2) 0)])
    (fun i => (n + 2, ⟨512, bys (tabsTo (fun _ => 0) t i), 33⟩) :: (n + 1, ⟨512, bys (fun _ => 0), 33⟩) :: (n, ⟨512, bys t, 24⟩) :: H) (fun _ => True) (by (repeat first | exact trivial | refine And.intro rfl ?_))
    (Drops.keepc rfl rfl (fun _ _ => by rw [tabsTo_zero]; rfl) (Drops.keepc rfl rfl (fun _ _ => rfl) (Drops.refl _ _))) trivial ?_
  intro i n1 hi hn _
  (repeat first|refine zG ?_|(refine LS.nilO ?_;intro nq hnq hltq;try refine zU ?_)|(refine MS.new ?_;intro bq hbq hbqf;try refine zU ?_)|(refine MS.nil ?_;intro nq hnq hltq;have hlq:=hltq _ _ (Hp.get_eq _ _ _);clear hltq;try refine zU ?_)|(refine LS.nilQ ?_;try with_reducible intro nq hnq;try refine zU ?_))
  refine zI ?_ ?_<;>intro h1
  · have hr : ∀ q, q < 64 → (bys t) (64 * i + q) = .int .u8 (t (64 * i + q)) := fun q hq => rfl
    (repeat first|refine zG ?_|(refine LS.nilO ?_;intro nq hnq hltq;try refine zU ?_)|(refine MS.new ?_;intro bq hbq hbqf;try refine zU ?_)|(refine MS.nil ?_;intro nq hnq hltq;have hlq:=hltq _ _ (Hp.get_eq _ _ _);clear hltq;try refine zU ?_)|(refine LS.nilQ ?_;try with_reducible intro nq hnq;try refine zU ?_))
    refine RS.call rfl ((laws_toLinear (fun x => t (64 * i + x)) _ _).mono ?_)
    rintro r H' n2 hn2 ⟨rfl, rfl⟩
    (repeat first|refine zG ?_|(refine LS.nilO ?_;intro nq hnq hltq;try refine zU ?_)|(refine MS.new ?_;intro bq hbq hbqf;try refine zU ?_)|(refine MS.nil ?_;intro nq hnq hltq;have hlq:=hltq _ _ (Hp.get_eq _ _ _);clear hltq;try refine zU ?_)|(refine LS.nilQ ?_;try with_reducible intro nq hnq;try refine zU ?_))
    exact ⟨by omega, by (repeat first | exact trivial | refine And.intro rfl ?_), Drops.keepc rfl rfl (fun q hq => tabsTo_step (fun y hy => rfl) q) (Drops.refl _ _), trivial⟩
  · have : i = 8 := by omega
    subst this
    (repeat first|refine zG ?_|(refine LS.nilO ?_;intro nq hnq hltq;try refine zU ?_)|(refine MS.new ?_;intro bq hbq hbqf;try refine zU ?_)|(refine MS.nil ?_;intro nq hnq hltq;have hlq:=hltq _ _ (Hp.get_eq _ _ _);clear hltq;try refine zU ?_)|(refine LS.nilQ ?_;try with_reducible intro nq hnq;try refine zU ?_))
    exact ⟨.arr 512 (bys t), H, conc_arr (fun q hq => by simp only [Nat.zero_add, bys, tabsTo]; rw [if_pos (by omega)]), by exact zD, rfl, rfl⟩
/-- spec.l09First -/
def ir73 : Cd := (.seq (.reg [⟨some 2,none,.box 35 (.t 0)⟩,⟨some 3,none,.box 29 (.t 1)⟩,⟨some 4,none,.new 33 [(512,(.int .u8 0))]⟩]) (.seq (.reg [⟨some 10,none,.fa 1 (.t 2)⟩,⟨some 11,none,.ld none (.t 10)⟩,⟨some 12,none,.build 512 [(512,(.int .u8 0))] []⟩,⟨some 6,none,.new 33 [(512,(.int .u8 0))]⟩,⟨some 5,none,.mov (.t 11)⟩,⟨none,none,.st 512 (.t 6) (.t 12)⟩]) (.seq (.seq (.reg [⟨some 7,none,.mov (.c (.int .i64 0))⟩]) (.block 0 (.loop (.seq (.seq (.reg [⟨some 13,none,.mov (.t 7)⟩,⟨some 14,none,.mov (.t 5)⟩,⟨some 15,none,.bin .lss (.t 13) (.t 14)⟩]) (.cond (.t 15) .skip (.exit 0))) (.seq (.block 1 (.seq (.reg [⟨some 8,none,.mov (.c (.int .i64 0))⟩]) (.block 2 (.loop (.seq (.seq (.reg [⟨some 18,none,.mov (.t 8)⟩,⟨some 19,none,.mov (.t 5)⟩,⟨some 20,none,.bin .lss (.t 18) (.t 19)⟩]) (.cond (.t 20) .skip (.exit 2))) (.seq (.block 3 (.seq (.reg [⟨some 9,none,.mov (.c (.int .i64 0))⟩]) (.block 4 (.loop (.seq (.seq (.reg [⟨some 23,none,.mov (.t 9)⟩,⟨some 24,none,.mov (.t 5)⟩,⟨some 25,none,.bin .lss (.t 23) (.t 24)⟩]) (.cond (.t 25) .skip (.exit 4))) (.seq (.block 5 (.drw true [24] [⟨some 28,none,.mov (.t 8)⟩,⟨some 29,none,.mov (.t 9)⟩,⟨some 30,none,.fa 0 (.t 2)⟩,⟨some 31,none,.ld none (.t 30)⟩,⟨some 32,none,.mov (.t 8)⟩,⟨some 33,none,.mov (.t 9)⟩,⟨some 34,none,.ia 8 64 (.t 6) (.t 32)⟩,⟨some 35,none,.ia 8 8 (.t 34) (.t 33)⟩,⟨some 36,none,.ld (some 8) (.t 35)⟩,⟨some 37,none,.mov (.t 7)⟩,⟨some 38,none,.ia 8 8 (.t 3) (.t 37)⟩,⟨some 39,none,.ld (some 8) (.t 38)⟩,⟨some 40,none,.mov (.t 7)⟩,⟨some 41,none,.mov (.t 8)⟩,⟨some 42,none,.mov (.t 9)⟩,⟨some 43,none,.fa 530 (.t 2)⟩,⟨some 44,none,.ia 8 64 (.t 43) (.t 40)⟩,⟨some 45,none,.ia 8 8 (.t 44) (.t 41)⟩,⟨some 46,none,.ia 8 1 (.t 45) (.t 42)⟩,⟨some 47,none,.ld none (.t 46)⟩,⟨some 48,none,.cv .i64 (.t 47)⟩,⟨some 49,none,.call 47 [(.t 31),(.t 36),(.t 39),(.t 48)]⟩,⟨some 50,none,.ia 8 64 (.t 6) (.t 28)⟩,⟨some 51,none,.ia 8 8 (.t 50) (.t 29)⟩,⟨none,none,.st 8 (.t 51) (.t 49)⟩])) (.reg [⟨some 26,none,.mov (.t 9)⟩,⟨some 27,none,.bin .add (.t 26) (.c (.int .i64 1))⟩,⟨some 9,none,.mov (.t 27)⟩]))))))) (.reg [⟨some 21,none,.mov (.t 8)⟩,⟨some 22,none,.bin .add (.t 21) (.c (.int .i64 1))⟩,⟨some 8,none,.mov (.t 22)⟩]))))))) (.reg [⟨some 16,none,.mov (.t 7)⟩,⟨some 17,none,.bin .add (.t 16) (.c (.int .i64 1))⟩,⟨some 7,none,.mov (.t 17)⟩])))))) (.seq (.reg [⟨some 52,none,.ld (some 512) (.t 6)⟩,⟨none,none,.st 512 (.t 4) (.t 52)⟩]) .ret))))
set_option maxRecDepth 100000 in
theorem tr73 : trFn Tryz.prog Tryz.f73 = some (53, ir73, [.cell (some 512) 4]) := by kernel_rfl
theorem spec_l09First (h : HT) (a : Nat) (s : Nat → Int) (K : Nat → SV) (H : Hp) (n : Nat) (hS : HS h a) (hK : h.At K) (hB : h.By) (hs : isBy 64 s) :
    FnS Tryz.prog 73 [.arr 1106 K, .arr 64 (bys s)] H n (fun r H' _ => r = .arr 512 (bys (fpt h.p h.c s a)) ∧ H' = H) := by
  have hp := hS.hp
  have ha := hS.ha
  have hk0 := hK.p
  have hk1 := hK.n
  rw [hS.hn] at hk1
  have hk5 := hK.c
  refine FnS.of_body Tryz.func73 tr73 (by simp) (fun hf => ?_)
  dsimp only [argEnv]
  unfold ir73
  (repeat first|refine zG ?_|(refine LS.nilO ?_;intro nq hnq hltq;try refine zU ?_)|(refine MS.new ?_;intro bq hbq hbqf;try refine zU ?_)|(refine MS.nil ?_;intro nq hnq hltq;have hlq:=hltq _ _ (Hp.get_eq _ _ _);clear hltq;try refine zU ?_)|(refine LS.nilQ ?_;try with_reducible intro nq hnq;try refine zU ?_))
  refine CS.iter a (fun k => [(7, i64 k), (2, ptr n 0), (3, ptr (n + 1) 0), (4, ptr (n + 2) 0), (5, i64 a), (6, ptr (n + 3) 0)])
    (fun k => (n + 3, ⟨512, bys (fpt h.p h.c s k), 33⟩) :: (n + 2, ⟨512, bys (fun _ => 0), 33⟩) :: (n + 1, ⟨64, bys s, 29⟩) :: (n, ⟨1106, K, 35⟩) :: H) (fun _ => True) (by (repeat first | exact trivial | refine And.intro rfl ?_))
    (Drops.keepc rfl rfl (fun _ _ => by rw [fpt_zero]; rfl) (Drops.keepc rfl rfl (fun _ _ => rfl) (Drops.refl _ _))) trivial ?_
  intro k n3 hk hn _
  (repeat first|refine zG ?_|(refine LS.nilO ?_;intro nq hnq hltq;try refine zU ?_)|(refine MS.new ?_;intro bq hbq hbqf;try refine zU ?_)|(refine MS.nil ?_;intro nq hnq hltq;have hlq:=hltq _ _ (Hp.get_eq _ _ _);clear hltq;try refine zU ?_)|(refine LS.nilQ ?_;try with_reducible intro nq hnq;try refine zU ?_))
  refine zI ?_ ?_<;>intro h2
  · (repeat first|refine zG ?_|(refine LS.nilO ?_;intro nq hnq hltq;try refine zU ?_)|(refine MS.new ?_;intro bq hbq hbqf;try refine zU ?_)|(refine MS.nil ?_;intro nq hnq hltq;have hlq:=hltq _ _ (Hp.get_eq _ _ _);clear hltq;try refine zU ?_)|(refine LS.nilQ ?_;try with_reducible intro nq hnq;try refine zU ?_))
    refine CS.iter a (fun i => [(8, i64 i), (7, i64 k), (2, ptr n 0), (3, ptr (n + 1) 0), (4, ptr (n + 2) 0), (5, i64 a), (6, ptr (n + 3) 0)])
      (fun i => (n + 3, ⟨512, bys (rowsTo (fpt h.p h.c s k) (fpt h.p h.c s (k + 1)) (8 * i)), 33⟩) :: (n + 2, ⟨512, bys (fun _ => 0), 33⟩) :: (n + 1, ⟨64, bys s, 29⟩) :: (n, ⟨1106, K, 35⟩) :: H) (fun _ => True) (by (repeat first | exact trivial | refine And.intro rfl ?_))
      (Drops.keepc rfl rfl (fun _ _ => by rw [show rowsTo (fpt h.p h.c s k) (fpt h.p h.c s (k + 1)) (8 * 0) = fpt h.p h.c s k from rowsTo_zero _ _]) (Drops.refl _ _)) trivial ?_
    intro i n4 hi hn4 _
    (repeat first|refine zG ?_|(refine LS.nilO ?_;intro nq hnq hltq;try refine zU ?_)|(refine MS.new ?_;intro bq hbq hbqf;try refine zU ?_)|(refine MS.nil ?_;intro nq hnq hltq;have hlq:=hltq _ _ (Hp.get_eq _ _ _);clear hltq;try refine zU ?_)|(refine LS.nilQ ?_;try with_reducible intro nq hnq;try refine zU ?_))
    refine zI ?_ ?_<;>intro h3
    · (repeat first|refine zG ?_|(refine LS.nilO ?_;intro nq hnq hltq;try refine zU ?_)|(refine MS.new ?_;intro bq hbq hbqf;try refine zU ?_)|(refine MS.nil ?_;intro nq hnq hltq;have hlq:=hltq _ _ (Hp.get_eq _ _ _);clear hltq;try refine zU ?_)|(refine LS.nilQ ?_;try with_reducible intro nq hnq;try refine zU ?_))
      refine CS.iter a (fun j => [(9, i64 j), (8, i64 i), (7, i64 k), (2, ptr n 0), (3, ptr (n + 1) 0), (4, ptr (n + 2) 0), (5, i64 a), (6, ptr (n + 3) 0)])
        (fun j => (n + 3, ⟨512, bys (rowsTo (fpt h.p h.c s k) (fpt h.p h.c s (k + 1)) (8 * i + j)), 33⟩) :: (n + 2, ⟨512, bys (fun _ => 0), 33⟩) :: (n + 1, ⟨64, bys s, 29⟩) :: (n, ⟨1106, K, 35⟩) :: H) (fun _ => True) (by (repeat first | exact trivial | refine And.intro rfl ?_)) (Drops.refl _ _) trivial ?_
      intro j n5 hj hn5 _
      (repeat first|refine zG ?_|(refine LS.nilO ?_;intro nq hnq hltq;try refine zU ?_)|(refine MS.new ?_;intro bq hbq hbqf;try refine zU ?_)|(refine MS.nil ?_;intro nq hnq hltq;have hlq:=hltq _ _ (Hp.get_eq _ _ _);clear hltq;try refine zU ?_)|(refine LS.nilQ ?_;try with_reducible intro nq hnq;try refine zU ?_))
      refine zI ?_ ?_<;>intro h4
      · have hx := hB.c (64 * k + 8 * i + j) (by omega)
        have hr : ∀ q, q < 8 → (bys (rowsTo (fpt h.p h.c s k) (fpt h.p h.c s (k + 1)) (8 * i + j))) (64 * i + 8 * j + q) = .int .u8 (fpt h.p h.c s k (64 * i + 8 * j + q)) := fun y hy => by simp only [bys, rowsTo]; rw [if_neg (by omega)]
        have hr2 : ∀ q, q < 8 → (bys s) (8 * k + q) = .int .u8 (s (8 * k + q)) := fun y hy => rfl
        (repeat first|refine zG ?_|(refine LS.nilO ?_;intro nq hnq hltq;try refine zU ?_)|(refine MS.new ?_;intro bq hbq hbqf;try refine zU ?_)|(refine MS.nil ?_;intro nq hnq hltq;have hlq:=hltq _ _ (Hp.get_eq _ _ _);clear hltq;try refine zU ?_)|(refine LS.nilQ ?_;try with_reducible intro nq hnq;try refine zU ?_))
        refine LS.callQ (.arr 8 (bys (pl h.p (fun y => fpt h.p h.c s k (64 * i + 8 * j + y)) (h.c (64 * k + 8 * i + j)) (fun y => s (8 * k + y))))) rfl (fun n' hn' => spec_l01Add h.p (h.c (64 * k + 8 * i + j)) (fun y => fpt h.p h.c s k (64 * i + 8 * j + y)) (fun y => s (8 * k + y)) _ _ hp (fun y hy => (fpt_res hp.1 h.c s k 512).by hp.2 _ (by omega)) (fun x hx => hs _ (by omega)) (by omega)) ?_
        (repeat first|refine zG ?_|(refine LS.nilO ?_;intro nq hnq hltq;try refine zU ?_)|(refine MS.new ?_;intro bq hbq hbqf;try refine zU ?_)|(refine MS.nil ?_;intro nq hnq hltq;have hlq:=hltq _ _ (Hp.get_eq _ _ _);clear hltq;try refine zU ?_)|(refine LS.nilQ ?_;try with_reducible intro nq hnq;try refine zU ?_))
        refine ⟨by omega, by (repeat first | exact trivial | refine And.intro rfl ?_), Drops.keepc rfl rfl (fun q hq => ?_) (Drops.refl _ _), trivial⟩
        rw [show 64 * i + 8 * j = 8 * (8 * i + j) by omega]
        refine rowsTo_step (fun y hy => ?_) q
        rw [← fpt_row _ _ _ _ _ _ _ hy, show 8 * (8 * i + j) = 64 * i + 8 * j by omega]
      · have : j = a := by omega
        subst this
        (repeat first|refine zG ?_|(refine LS.nilO ?_;intro nq hnq hltq;try refine zU ?_)|(refine MS.new ?_;intro bq hbq hbqf;try refine zU ?_)|(refine MS.nil ?_;intro nq hnq hltq;have hlq:=hltq _ _ (Hp.get_eq _ _ _);clear hltq;try refine zU ?_)|(refine LS.nilQ ?_;try with_reducible intro nq hnq;try refine zU ?_))
        exact ⟨by omega, by (repeat first | exact trivial | refine And.intro rfl ?_), Drops.keepc rfl rfl (fun q hq => by
          rw [rowsTo_more (x := 8 * i + j) (y := 8 * (i + 1)) (by omega) (fun q h1 h2 => fpt_same (by
            have := hS.cm k (q / 8 / 8) (q / 8 % 8) (by omega) (by omega) (by omega) (by omega)
            rwa [show 64 * k + 8 * (q / 8 / 8) + q / 8 % 8 = 64 * k + q / 8 by omega] at this))]) (Drops.refl _ _), trivial⟩
    · have : i = a := by omega
      subst this
      (repeat first|refine zG ?_|(refine LS.nilO ?_;intro nq hnq hltq;try refine zU ?_)|(refine MS.new ?_;intro bq hbq hbqf;try refine zU ?_)|(refine MS.nil ?_;intro nq hnq hltq;have hlq:=hltq _ _ (Hp.get_eq _ _ _);clear hltq;try refine zU ?_)|(refine LS.nilQ ?_;try with_reducible intro nq hnq;try refine zU ?_))
      exact ⟨by omega, by (repeat first | exact trivial | refine And.intro rfl ?_), Drops.keepc rfl rfl (fun q hq => by simp only [bys]; rw [rowsTo_all (N := 512) (fun q h1 h2 => fpt_same (hS.cm.at (by omega) (by omega) (.inr (by omega)))) hq]) (Drops.refl _ _), trivial⟩
  · have : k = a := by omega
    subst this
    (repeat first|refine zG ?_|(refine LS.nilO ?_;intro nq hnq hltq;try refine zU ?_)|(refine MS.new ?_;intro bq hbq hbqf;try refine zU ?_)|(refine MS.nil ?_;intro nq hnq hltq;have hlq:=hltq _ _ (Hp.get_eq _ _ _);clear hltq;try refine zU ?_)|(refine LS.nilQ ?_;try with_reducible intro nq hnq;try refine zU ?_))
    exact ⟨.arr 512 (bys (fpt h.p h.c s k)), H, conc_arr (fun q hq => by simp only [Nat.zero_add]), by exact zD, rfl, rfl⟩
/-- (*impl.Hopf).product1323$1$1 -/
def ir96 : Cd := (.drw true [16] [⟨some 12,none,.ld (some 2) (.t 3)⟩,⟨some 13,none,.ld none (.t 5)⟩,⟨some 14,none,.mov (.t 0)⟩,⟨some 15,none,.ia 8 64 (.t 4) (.t 13)⟩,⟨some 16,none,.ia 8 8 (.t 15) (.t 14)⟩,⟨some 17,none,.ld none (.t 6)⟩,⟨some 18,none,.mov (.t 2)⟩,⟨some 19,none,.bin .mul (.t 17) (.t 18)⟩,⟨some 20,none,.ld none (.t 7)⟩,⟨some 21,none,.ld none (.t 8)⟩,⟨some 22,none,.mov (.t 1)⟩,⟨some 23,none,.ck (.t 20)⟩,⟨some 24,none,.fa 10 (.t 23)⟩,⟨some 25,none,.ia 8 64 (.t 24) (.t 21)⟩,⟨some 26,none,.ia 8 8 (.t 25) (.t 22)⟩,⟨some 27,none,.ld (some 8) (.t 26)⟩,⟨some 28,none,.call 50 [(.t 12),(.t 16),(.t 19),(.t 27)]⟩])
set_option maxRecDepth 100000 in
theorem tr96 : trFn Tryz.prog Tryz.f96 = some (29, ir96, []) := by kernel_rfl
theorem Hopf_product1323_2 (h : HT) (a : Nat) (s : Nat → Int) (t t2 i1 c1 i2 c2 : Nat) (ht : t = 8 * i1 + c1) (hi1 : i1 < 8) (hc1 : c1 < 8) (ht2 : t2 = 8 * i2 + c2) (hi2 : i2 < 8) (hc2 : c2 < 8)
    (b bh ba bf bo bx bc : Nat) (K Kh Ka Kx Kc : Blk) (H : Hp) (n : Nat) (hS : HS h a) (hb : H.get b = some K) (hsz : K.size = 1106) (hK : h.At K.c) (hB : h.By) (hs : isBy 64 s)
    (gh : H.get bh = some Kh) (sh : Kh.size = 1) (ch : Kh.c 0 = .ptr b 0) (ga : H.get ba = some Ka) (sa : Ka.size = 1) (ca : Ka.c 0 = .int .i64 i1) (gf : H.get bf = some ⟨2, fldC h.p a, 85⟩)
    (go : H.get bo = some ⟨512, bys (q23 h.p h.m s t t2), 33⟩) (gx : H.get bx = some Kx) (sx : Kx.size = 1) (cx : Kx.c 0 = .int .i64 (s t)) (gc : H.get bc = some Kc) (sc : Kc.size = 1) (cc : Kc.c 0 = .int .i64 c1)
    (d1 : bo ≠ b) (d2 : bo ≠ bh) (d3 : bo ≠ ba) (d4 : bo ≠ bf) (d5 : bo ≠ bx) (d6 : bo ≠ bc) :
    FnS Tryz.prog 96 [i64 i2, i64 c2, i64 (s t2), ptr bf 0, ptr bo 0, ptr ba 0, ptr bx 0, ptr bh 0, ptr bc 0] H n (fun _ H' _ => H' = H.set bo (bys (q23 h.p h.m s t (t2 + 1)))) := by
  have hp := hS.hp
  have ha := hS.ha
  have hk5 := hK.m
  have hst := hs t (by omega)
  have hst2 := hs t2 (by omega)
  have hAB := mulB hst.1 hst.2 hst2.1 hst2.2
  refine FnS.of_body Tryz.func96 tr96 (by simp) (fun hf => ?_)
  dsimp only [argEnv]
  unfold ir96
  have hbn := getlt hf hb
  (repeat first|refine zG ?_|(refine LS.nilO ?_;intro nq hnq hltq;try refine zU ?_)|(refine MS.new ?_;intro bq hbq hbqf;try refine zU ?_)|(refine MS.nil ?_;intro nq hnq hltq;have hlq:=hltq _ _ (Hp.get_eq _ _ _);clear hltq;try refine zU ?_)|(refine LS.nilQ ?_;try with_reducible intro nq hnq;try refine zU ?_))
  refine RS.call rfl ((field_plus h.p a (s t * s t2) (fun y => q23 h.p h.m s t t2 (64 * i1 + 8 * i2 + y)) (fun y => h.m (64 * c1 + 8 * c2 + y)) bo (64 * i1 + 8 * i2) ⟨512, bys (q23 h.p h.m s t t2), 33⟩ _ _ hp go (show 64 * i1 + 8 * i2 + 8 ≤ 512 by omega)
    (fun y hy => rfl) (fun y hy => q23_res hp.1 _ _ _ _ 512 _ (by omega)) (fun x hx => hB.m _ (by omega)) (by omega)).mono ?_)
  rintro r H' n5 hn5 ⟨rfl, rfl⟩
  (repeat first|refine zG ?_|(refine LS.nilO ?_;intro nq hnq hltq;try refine zU ?_)|(refine MS.new ?_;intro bq hbq hbqf;try refine zU ?_)|(refine MS.nil ?_;intro nq hnq hltq;have hlq:=hltq _ _ (Hp.get_eq _ _ _);clear hltq;try refine zU ?_)|(refine LS.nilQ ?_;try with_reducible intro nq hnq;try refine zU ?_))
  subst ht ht2
  exact ⟨_, H.set bo (bys (q23 h.p h.m s (8 * i1 + c1) (8 * i2 + c2 + 1))), rfl, Drops.setc go (fun q hq => q23_splice hi2 hc1 hc2 (fun y hy => by rw [← q23_row _ _ _ _ _ _ _ _ hi2 hc1 hc2 hy]) q), rfl⟩
theorem spec_p02 (h : HT) (a : Nat) (s : Nat → Int) (K : Nat → SV) (H : Hp) (n : Nat) (hS : HS h a) (hK : h.At K) (hB : h.By) (hs : isBy 64 s) (hz : lz a s) :
    FnS Tryz.prog 72 [.arr 1106 K, .arr 64 (bys s), i64 0, i64 2] H n (fun r H' _ => r = .arr 512 (bys (p02 h.p h.u s)) ∧ H' = H) :=
  spec_l09Parts h a s _ 0 2 _ _ _ _ K H n hS hK hB hs hz PT.p02 (fun j k u hj hk hu => by
    unfold p02
    rw [show 8 * ((64 * j + 8 * u + k) / 64) + (64 * j + 8 * u + k) % 8 = 8 * j + k by omega, show (64 * j + 8 * u + k) / 8 % 8 = u by omega])
theorem spec_p12 (h : HT) (a : Nat) (s : Nat → Int) (K : Nat → SV) (H : Hp) (n : Nat) (hS : HS h a) (hK : h.At K) (hB : h.By) (hs : isBy 64 s) (hz : lz a s) :
    FnS Tryz.prog 72 [.arr 1106 K, .arr 64 (bys s), i64 1, i64 2] H n (fun r H' _ => r = .arr 512 (bys (p12 h.p h.u s)) ∧ H' = H) :=
  spec_l09Parts h a s _ 1 2 _ _ _ _ K H n hS hK hB hs hz PT.p12 (fun j k u hj hk hu => by
    unfold p12
    rw [show (64 * u + 8 * j + k) % 64 = 8 * j + k by omega, show (64 * u + 8 * j + k) / 64 = u by omega])
theorem spec_p01 (h : HT) (a : Nat) (s : Nat → Int) (K : Nat → SV) (H : Hp) (n : Nat) (hS : HS h a) (hK : h.At K) (hB : h.By) (hs : isBy 64 s) (hz : lz a s) :
    FnS Tryz.prog 72 [.arr 1106 K, .arr 64 (bys s), i64 0, i64 1] H n (fun r H' _ => r = .arr 512 (bys (p01 h.p h.u s)) ∧ H' = H) :=
  spec_l09Parts h a s _ 0 1 _ _ _ _ K H n hS hK hB hs hz PT.p01 (fun j k u hj hk hu => by
    unfold p01
    rw [show (64 * j + 8 * k + u) / 8 = 8 * j + k by omega, show (64 * j + 8 * k + u) % 8 = u by omega])
end Go.Proofs.YtbknndbfbebkdabGreatR
