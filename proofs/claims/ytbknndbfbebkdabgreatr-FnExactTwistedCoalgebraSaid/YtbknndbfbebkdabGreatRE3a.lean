/- Contracts of the program's functions. -/
import Derived.Test.YtbknndbfbebkdabGreatRR
import Derived.Test.YtbknndbfbebkdabGreatRLW
import Derived.Test.YtbknndbfbebkdabGreatRE2a
import Derived.Test.YtbknndbfbebkdabGreatRE2b
import Derived.Test.YtbknndbfbebkdabGreatRE2c
namespace Go.Proofs.YtbknndbfbebkdabGreatR
open Go.V
set_option linter.unusedSimpArgs false
set_option linter.unusedVariables false
set_option maxHeartbeats 4000000
/-- spec.l01Times -/
def ir30 : Cd := (.seq (.reg [⟨some 3,none,.box 61 (.t 0)⟩,⟨some 4,none,.box 27 (.t 1)⟩,⟨some 5,none,.box 27 (.t 2)⟩,⟨some 6,none,.new 27 [(8,(.int .u8 0))]⟩]) (.seq (.reg [⟨some 9,none,.build 8 [(8,(.int .u8 0))] []⟩,⟨some 7,none,.new 27 [(8,(.int .u8 0))]⟩,⟨none,none,.st 8 (.t 7) (.t 9)⟩]) (.seq (.seq (.reg [⟨some 8,none,.mov (.c (.int .i64 0))⟩]) (.block 0 (.loop (.seq (.seq (.reg [⟨some 10,none,.mov (.t 8)⟩,⟨some 11,none,.fa 1 (.t 3)⟩,⟨some 12,none,.ld none (.t 11)⟩,⟨some 13,none,.bin .lss (.t 10) (.t 12)⟩]) (.cond (.t 13) .skip (.exit 0))) (.seq (.block 1 (.seq (.reg [⟨some 16,none,.mov (.t 8)⟩,⟨some 17,none,.ia 8 1 (.t 4) (.t 16)⟩,⟨some 18,none,.ld none (.t 17)⟩,⟨some 19,none,.bin .neq (.t 18) (.c (.int .u8 0))⟩]) (.cond (.t 19) (.drwo true [17,18] [0,1,2,3,4,5,6,7,8,9,10,11,13,14,15,16,12,17,18] [⟨some 20,none,.fa 0 (.t 3)⟩,⟨some 21,none,.ld none (.t 20)⟩,⟨some 22,none,.ld (some 8) (.t 7)⟩,⟨some 23,none,.fa 0 (.t 3)⟩,⟨some 24,none,.ld none (.t 23)⟩,⟨some 25,none,.fa 1 (.t 3)⟩,⟨some 26,none,.ld none (.t 25)⟩,⟨some 27,none,.mov (.t 8)⟩,⟨some 28,none,.fa 10 (.t 3)⟩,⟨some 29,none,.ia 8 64 (.t 28) (.t 27)⟩,⟨some 30,none,.ld (some 64) (.t 29)⟩,⟨some 31,none,.ld (some 8) (.t 5)⟩,⟨some 32,none,.call 29 [(.t 24),(.t 26),(.t 30),(.t 31)]⟩,⟨some 33,none,.mov (.t 8)⟩,⟨some 34,none,.ia 8 1 (.t 4) (.t 33)⟩,⟨some 35,none,.ld none (.t 34)⟩,⟨some 36,none,.cv .i64 (.t 35)⟩,⟨some 37,none,.call 47 [(.t 21),(.t 22),(.t 32),(.t 36)]⟩,⟨none,none,.st 8 (.t 7) (.t 37)⟩]) .skip))) (.reg [⟨some 14,none,.mov (.t 8)⟩,⟨some 15,none,.bin .add (.t 14) (.c (.int .i64 1))⟩,⟨some 8,none,.mov (.t 15)⟩])))))) (.seq (.reg [⟨some 38,none,.ld (some 8) (.t 7)⟩,⟨none,none,.st 8 (.t 6) (.t 38)⟩]) .ret))))
set_option maxRecDepth 100000 in
theorem tr30 : trFn Tryz.prog Tryz.f30 = some (39, ir30, [.cell (some 8) 6]) := by kernel_rfl
theorem spec_l01Times (p : Int) (a : Nat) (m v w : Nat → Int) (K : Nat → SV) (H : Hp) (n : Nat) (hp : 2 ≤ p ∧ p ≤ 31) (ha : a ≤ 8) (h0 : K 0 = .int .i64 p) (h1 : K 1 = .int .i64 a)
    (hK : ∀ q, q < 512 → K (10 + q) = .int .u8 (m q)) (hm : isBy 512 m) (hv : isBy 8 v) (hw : isBy 8 w) :
    FnS Tryz.prog 30 [.arr 522 K, .arr 8 (bys v), .arr 8 (bys w)] H n (fun r H' _ => r = .arr 8 (bys (pr p m v w a)) ∧ H' = H) := by
  refine FnS.of_body Tryz.func30 tr30 (by simp) (fun hf => ?_)
  dsimp only [argEnv]
  unfold ir30
  (repeat first|refine zG ?_|(refine LS.nilO ?_;intro nq hnq hltq;try refine zU ?_)|(refine MS.new ?_;intro bq hbq hbqf;try refine zU ?_)|(refine MS.nil ?_;intro nq hnq hltq;have hlq:=hltq _ _ (Hp.get_eq _ _ _);clear hltq;try refine zU ?_)|(refine LS.nilQ ?_;try with_reducible intro nq hnq;try refine zU ?_))
  refine CS.iter a (fun i => [(8, i64 i), (3, ptr n 0), (4, ptr (n + 1) 0), (5, ptr (n + 2) 0), (6, ptr (n + 3) 0), (7, ptr (n + 4) 0)])
    (fun i => (n + 4, ⟨8, bys (pk p m v w a i 0), 27⟩) :: (n + 3, ⟨8, bys (fun _ => 0), 27⟩) :: (n + 2, ⟨8, bys w, 27⟩) :: (n + 1, ⟨8, bys v, 27⟩) :: (n, ⟨522, K, 61⟩) :: H) (fun _ => True) (by (repeat first | exact trivial | refine And.intro rfl ?_))
    (Drops.keepc rfl rfl (fun _ _ => by rw [pk_zero]; rfl) (Drops.keepc rfl rfl (fun _ _ => rfl) (Drops.refl _ _))) trivial ?_
  intro i n1 hi hn _
  (repeat first|refine zG ?_|(refine LS.nilO ?_;intro nq hnq hltq;try refine zU ?_)|(refine MS.new ?_;intro bq hbq hbqf;try refine zU ?_)|(refine MS.nil ?_;intro nq hnq hltq;have hlq:=hltq _ _ (Hp.get_eq _ _ _);clear hltq;try refine zU ?_)|(refine LS.nilQ ?_;try with_reducible intro nq hnq;try refine zU ?_))
  refine zI ?_ ?_<;>intro h2
  · have hvi := hv i (by omega)
    (repeat first|refine zG ?_|(refine LS.nilO ?_;intro nq hnq hltq;try refine zU ?_)|(refine MS.new ?_;intro bq hbq hbqf;try refine zU ?_)|(refine MS.nil ?_;intro nq hnq hltq;have hlq:=hltq _ _ (Hp.get_eq _ _ _);clear hltq;try refine zU ?_)|(refine LS.nilQ ?_;try with_reducible intro nq hnq;try refine zU ?_))
    refine zI ?_ ?_<;>intro h3
    · (repeat first|refine zG ?_|(refine LS.nilO ?_;intro nq hnq hltq;try refine zU ?_)|(refine MS.new ?_;intro bq hbq hbqf;try refine zU ?_)|(refine MS.nil ?_;intro nq hnq hltq;have hlq:=hltq _ _ (Hp.get_eq _ _ _);clear hltq;try refine zU ?_)|(refine LS.nilQ ?_;try with_reducible intro nq hnq;try refine zU ?_))
      refine CS.tailLo _ (List.Mem.head _) ?_; dsimp only [List.take, List.drop]
      (repeat first|refine zG ?_|(refine LS.nilO ?_;intro nq hnq hltq;try refine zU ?_)|(refine MS.new ?_;intro bq hbq hbqf;try refine zU ?_)|(refine MS.nil ?_;intro nq hnq hltq;have hlq:=hltq _ _ (Hp.get_eq _ _ _);clear hltq;try refine zU ?_)|(refine LS.nilQ ?_;try with_reducible intro nq hnq;try refine zU ?_))
      refine LS.callQ (.arr 8 (bys (apk p (fun q => m (64 * i + q)) w a))) rfl (fun n' hn' => spec_l01Apply p a (fun q => m (64 * i + q)) w _ _ hp ha (fun q hq => hm _ (by omega)) hw) ?_
      (repeat first|refine zG ?_|(refine LS.nilO ?_;intro nq hnq hltq;try refine zU ?_)|(refine MS.new ?_;intro bq hbq hbqf;try refine zU ?_)|(refine MS.nil ?_;intro nq hnq hltq;have hlq:=hltq _ _ (Hp.get_eq _ _ _);clear hltq;try refine zU ?_)|(refine LS.nilQ ?_;try with_reducible intro nq hnq;try refine zU ?_))
      refine RS.call rfl ((spec_l01Add p (v i) (pk p m v w a i 0) (apk p (fun q => m (64 * i + q)) w a) _ _ hp (fun q hq => by have := pk_res hp.1 m v w a i 0 8 q hq; omega) (fun q hq => by have := apk_res hp.1 (fun q => m (64 * i + q)) w a 8 q hq; omega) (by omega)).mono ?_)
      rintro r H' n2 hn2 ⟨rfl, rfl⟩
      (repeat first|refine zG ?_|(refine LS.nilO ?_;intro nq hnq hltq;try refine zU ?_)|(refine MS.new ?_;intro bq hbq hbqf;try refine zU ?_)|(refine MS.nil ?_;intro nq hnq hltq;have hlq:=hltq _ _ (Hp.get_eq _ _ _);clear hltq;try refine zU ?_)|(refine LS.nilQ ?_;try with_reducible intro nq hnq;try refine zU ?_))
      exact ⟨by omega, by (repeat first | exact trivial | refine And.intro rfl ?_), Drops.keepc rfl rfl (fun q hq => by rw [pk_whole]) (Drops.refl _ _), trivial⟩
    · (repeat first|refine zG ?_|(refine LS.nilO ?_;intro nq hnq hltq;try refine zU ?_)|(refine MS.new ?_;intro bq hbq hbqf;try refine zU ?_)|(refine MS.nil ?_;intro nq hnq hltq;have hlq:=hltq _ _ (Hp.get_eq _ _ _);clear hltq;try refine zU ?_)|(refine LS.nilQ ?_;try with_reducible intro nq hnq;try refine zU ?_))
      exact ⟨by omega, by (repeat first | exact trivial | refine And.intro rfl ?_), by rw [pk_skip h3]; exact Drops.refl _ _, trivial⟩
  · have : i = a := by omega
    subst this
    (repeat first|refine zG ?_|(refine LS.nilO ?_;intro nq hnq hltq;try refine zU ?_)|(refine MS.new ?_;intro bq hbq hbqf;try refine zU ?_)|(refine MS.nil ?_;intro nq hnq hltq;have hlq:=hltq _ _ (Hp.get_eq _ _ _);clear hltq;try refine zU ?_)|(refine LS.nilQ ?_;try with_reducible intro nq hnq;try refine zU ?_))
    exact ⟨.arr 8 (bys (pr p m v w i)), H, conc_arr (fun q hq => by simp only [Nat.zero_add]; rfl), by exact zD, rfl, rfl⟩
/-- (impl.field).pair -/
def ir99 : Cd := (.seq (.reg [⟨some 3,none,.box 85 (.t 0)⟩,⟨some 4,none,.box 27 (.t 1)⟩,⟨some 5,none,.box 27 (.t 2)⟩,⟨some 6,none,.new 29 [(64,(.int .u8 0))]⟩]) (.seq (.reg [⟨some 10,none,.build 64 [(64,(.int .u8 0))] []⟩,⟨some 7,none,.new 29 [(64,(.int .u8 0))]⟩,⟨none,none,.st 64 (.t 7) (.t 10)⟩]) (.seq (.seq (.reg [⟨some 11,none,.ld (some 8) (.t 4)⟩,⟨some 12,none,.mov (.c (.int .i64 0))⟩]) (.block 0 (.loop (.seq (.reg [⟨some 13,none,.bin .lss (.t 12) (.c (.int .i64 8))⟩]) (.seq (.cond (.t 13) .skip (.exit 0)) (.seq (.block 1 (.seq (.reg [⟨some 14,none,.mov (.t 12)⟩,⟨some 15,none,.ix 8 1 none (.t 11) (.t 12)⟩,⟨some 8,none,.mov (.t 14)⟩,⟨some 9,none,.mov (.t 15)⟩]) (.reg [⟨some 16,none,.mov (.t 8)⟩,⟨some 17,none,.ld (some 2) (.t 3)⟩,⟨some 18,none,.mov (.t 9)⟩,⟨some 19,none,.cv .i64 (.t 18)⟩,⟨some 20,none,.ld (some 8) (.t 5)⟩,⟨some 21,none,.call 122 [(.t 17),(.t 19),(.t 20)]⟩,⟨some 22,none,.ia 8 8 (.t 7) (.t 16)⟩,⟨none,none,.st 8 (.t 22) (.t 21)⟩]))) (.reg [⟨some 23,none,.bin .add (.t 12) (.c (.int .i64 1))⟩,⟨some 12,none,.mov (.t 23)⟩]))))))) (.seq (.reg [⟨some 24,none,.ld (some 64) (.t 7)⟩,⟨none,none,.st 64 (.t 6) (.t 24)⟩]) .ret))))
set_option maxRecDepth 100000 in
theorem tr99 : trFn Tryz.prog Tryz.f99 = some (25, ir99, [.cell (some 64) 6]) := by kernel_rfl
theorem field_pair (p n' : Int) (v w : Nat → Int) (H : Hp) (n : Nat) (hp : 2 ≤ p ∧ p ≤ 31) (hv : isBy 8 v) (hw : isBy 8 w) :
    FnS Tryz.prog 99 [fld p n', .arr 8 (bys v), .arr 8 (bys w)] H n (fun r H' _ => r = .arr 64 (bys (outer p v w)) ∧ H' = H) := by
  refine FnS.of_body Tryz.func99 tr99 (by simp) (fun hf => ?_)
  dsimp only [argEnv]
  unfold ir99
  (repeat first|refine zG ?_|(refine LS.nilO ?_;intro nq hnq hltq;try refine zU ?_)|(refine MS.new ?_;intro bq hbq hbqf;try refine zU ?_)|(refine MS.nil ?_;intro nq hnq hltq;have hlq:=hltq _ _ (Hp.get_eq _ _ _);clear hltq;try refine zU ?_)|(refine LS.nilQ ?_;try with_reducible intro nq hnq;try refine zU ?_))
  refine CS.iter 8 (fun i => [(12, i64 i), (11, .arr 8 (bys v)), (3, ptr n 0), (5, ptr (n + 2) 0), (6, ptr (n + 3) 0), (7, ptr (n + 4) 0)])
    (fun i => (n + 4, ⟨64, bys (rowsTo (fun _ => 0) (outer p v w) i), 29⟩) :: (n + 3, ⟨64, bys (fun _ => 0), 29⟩) :: (n + 2, ⟨8, bys w, 27⟩) :: (n + 1, ⟨8, bys v, 27⟩) :: (n, ⟨2, fldC p n', 85⟩) :: H) (fun _ => True) (by (repeat first | exact trivial | refine And.intro rfl ?_))
    (Drops.keepc rfl rfl (fun _ _ => by rw [rowsTo_zero]; rfl) (Drops.keepc rfl rfl (fun _ _ => rfl) (Drops.refl _ _))) trivial ?_
  intro i n1 hi hn _
  (repeat first|refine zG ?_|(refine LS.nilO ?_;intro nq hnq hltq;try refine zU ?_)|(refine MS.new ?_;intro bq hbq hbqf;try refine zU ?_)|(refine MS.nil ?_;intro nq hnq hltq;have hlq:=hltq _ _ (Hp.get_eq _ _ _);clear hltq;try refine zU ?_)|(refine LS.nilQ ?_;try with_reducible intro nq hnq;try refine zU ?_))
  refine zI ?_ ?_<;>intro h1
  · have hvi := hv i (by omega)
    (repeat first|refine zG ?_|(refine LS.nilO ?_;intro nq hnq hltq;try refine zU ?_)|(refine MS.new ?_;intro bq hbq hbqf;try refine zU ?_)|(refine MS.nil ?_;intro nq hnq hltq;have hlq:=hltq _ _ (Hp.get_eq _ _ _);clear hltq;try refine zU ?_)|(refine LS.nilQ ?_;try with_reducible intro nq hnq;try refine zU ?_))
    refine RS.call rfl ((field_times p n' (v i) w _ _ hp hw (by omega)).mono ?_)
    rintro r H n2 hn2 ⟨rfl, rfl⟩
    (repeat first|refine zG ?_|(refine LS.nilO ?_;intro nq hnq hltq;try refine zU ?_)|(refine MS.new ?_;intro bq hbq hbqf;try refine zU ?_)|(refine MS.nil ?_;intro nq hnq hltq;have hlq:=hltq _ _ (Hp.get_eq _ _ _);clear hltq;try refine zU ?_)|(refine LS.nilQ ?_;try with_reducible intro nq hnq;try refine zU ?_))
    exact ⟨by omega, by (repeat first | exact trivial | refine And.intro rfl ?_), Drops.keepc rfl rfl (fun q hq => rowsTo_step (fun y hy => outer_row _ _ _ _ _ hy) q) (Drops.refl _ _), trivial⟩
  · have : i = 8 := by omega
    subst this
    (repeat first|refine zG ?_|(refine LS.nilO ?_;intro nq hnq hltq;try refine zU ?_)|(refine MS.new ?_;intro bq hbq hbqf;try refine zU ?_)|(refine MS.nil ?_;intro nq hnq hltq;have hlq:=hltq _ _ (Hp.get_eq _ _ _);clear hltq;try refine zU ?_)|(refine LS.nilQ ?_;try with_reducible intro nq hnq;try refine zU ?_))
    exact ⟨.arr 64 (bys (outer p v w)), H, conc_arr (fun q hq => by simp only [Nat.zero_add, bys]; rw [rowsTo_all (n := 8) (N := 64) (fun q h1 h2 => by omega) hq]), by exact zD, rfl, rfl⟩
/-- spec.l10Cocycle -/
def ir55 : Cd := (.seq (.reg [⟨some 2,none,.box 35 (.t 0)⟩,⟨some 3,none,.box 29 (.t 1)⟩,⟨some 4,none,.mov (.c (.bool false))⟩]) (.seq (.seq (.reg [⟨some 11,none,.ld (some 1106) (.t 2)⟩,⟨some 12,none,.ld (some 64) (.t 3)⟩,⟨some 13,none,.call 83 [(.t 11),(.t 12)]⟩,⟨some 14,none,.un .not (.t 13)⟩]) (.cond (.t 14) (.seq (.reg [⟨some 4,none,.mov (.c (.bool false))⟩]) .ret) .skip)) (.seq (.reg [⟨some 15,none,.build 512 [(512,(.int .u8 0))] []⟩,⟨some 5,none,.new 33 [(512,(.int .u8 0))]⟩,⟨none,none,.st 512 (.t 5) (.t 15)⟩]) (.seq (.seq (.reg [⟨some 6,none,.mov (.c (.int .i64 0))⟩]) (.block 0 (.loop (.seq (.seq (.reg [⟨some 16,none,.mov (.t 6)⟩,⟨some 17,none,.fa 1 (.t 2)⟩,⟨some 18,none,.ld none (.t 17)⟩,⟨some 19,none,.bin .lss (.t 16) (.t 18)⟩]) (.cond (.t 19) .skip (.exit 0))) (.seq (.block 1 (.seq (.reg [⟨some 7,none,.mov (.c (.int .i64 0))⟩]) (.block 2 (.loop (.seq (.seq (.reg [⟨some 22,none,.mov (.t 7)⟩,⟨some 23,none,.fa 1 (.t 2)⟩,⟨some 24,none,.ld none (.t 23)⟩,⟨some 25,none,.bin .lss (.t 22) (.t 24)⟩]) (.cond (.t 25) .skip (.exit 2))) (.seq (.block 3 (.drw true [9] [⟨some 28,none,.mov (.t 6)⟩,⟨some 29,none,.mov (.t 7)⟩,⟨some 30,none,.ld (some 1106) (.t 2)⟩,⟨some 31,none,.ld (some 64) (.t 3)⟩,⟨some 32,none,.mov (.t 6)⟩,⟨some 33,none,.mov (.t 7)⟩,⟨some 34,none,.call 84 [(.t 30),(.t 31),(.t 32),(.t 33)]⟩,⟨some 35,none,.ia 8 64 (.t 5) (.t 28)⟩,⟨some 36,none,.ia 8 8 (.t 35) (.t 29)⟩,⟨none,none,.st 8 (.t 36) (.t 34)⟩])) (.reg [⟨some 26,none,.mov (.t 7)⟩,⟨some 27,none,.bin .add (.t 26) (.c (.int .i64 1))⟩,⟨some 7,none,.mov (.t 27)⟩]))))))) (.reg [⟨some 20,none,.mov (.t 6)⟩,⟨some 21,none,.bin .add (.t 20) (.c (.int .i64 1))⟩,⟨some 6,none,.mov (.t 21)⟩])))))) (.seq (.seq (.reg [⟨some 8,none,.mov (.c (.int .i64 0))⟩]) (.block 4 (.loop (.seq (.seq (.reg [⟨some 37,none,.mov (.t 8)⟩,⟨some 38,none,.fa 1 (.t 2)⟩,⟨some 39,none,.ld none (.t 38)⟩,⟨some 40,none,.bin .lss (.t 37) (.t 39)⟩]) (.cond (.t 40) .skip (.exit 4))) (.seq (.block 5 (.seq (.reg [⟨some 9,none,.mov (.c (.int .i64 0))⟩]) (.block 6 (.loop (.seq (.seq (.reg [⟨some 43,none,.mov (.t 9)⟩,⟨some 44,none,.fa 1 (.t 2)⟩,⟨some 45,none,.ld none (.t 44)⟩,⟨some 46,none,.bin .lss (.t 43) (.t 45)⟩]) (.cond (.t 46) .skip (.exit 6))) (.seq (.block 7 (.seq (.reg [⟨some 10,none,.mov (.c (.int .i64 0))⟩]) (.block 8 (.loop (.seq (.seq (.reg [⟨some 49,none,.mov (.t 10)⟩,⟨some 50,none,.fa 1 (.t 2)⟩,⟨some 51,none,.ld none (.t 50)⟩,⟨some 52,none,.bin .lss (.t 49) (.t 51)⟩]) (.cond (.t 52) .skip (.exit 8))) (.seq (.block 9 (.seq (.drwo true [19] [0,1,2,3,4,5,6,7,10,11,12,14,15,16,17,18,8,9,13,19,20] [⟨some 55,none,.ld (some 1106) (.t 2)⟩,⟨some 56,none,.ld (some 64) (.t 3)⟩,⟨some 57,none,.mov (.t 8)⟩,⟨some 58,none,.mov (.t 9)⟩,⟨some 59,none,.ia 8 64 (.t 5) (.t 57)⟩,⟨some 60,none,.ia 8 8 (.t 59) (.t 58)⟩,⟨some 61,none,.ld (some 8) (.t 60)⟩,⟨some 62,none,.mov (.t 10)⟩,⟨some 63,none,.call 31 [(.t 62)]⟩,⟨some 64,none,.call 85 [(.t 55),(.t 56),(.t 61),(.t 63)]⟩,⟨some 65,none,.ld (some 1106) (.t 2)⟩,⟨some 66,none,.ld (some 64) (.t 3)⟩,⟨some 67,none,.mov (.t 8)⟩,⟨some 68,none,.call 31 [(.t 67)]⟩,⟨some 69,none,.mov (.t 9)⟩,⟨some 70,none,.mov (.t 10)⟩,⟨some 71,none,.ia 8 64 (.t 5) (.t 69)⟩,⟨some 72,none,.ia 8 8 (.t 71) (.t 70)⟩,⟨some 73,none,.ld (some 8) (.t 72)⟩,⟨some 74,none,.call 85 [(.t 65),(.t 66),(.t 68),(.t 73)]⟩,⟨some 75,none,.bin .neq (.t 64) (.t 74)⟩]) (.cond (.t 75) (.seq (.reg [⟨some 4,none,.mov (.c (.bool false))⟩]) .ret) .skip))) (.reg [⟨some 53,none,.mov (.t 10)⟩,⟨some 54,none,.bin .add (.t 53) (.c (.int .i64 1))⟩,⟨some 10,none,.mov (.t 54)⟩]))))))) (.reg [⟨some 47,none,.mov (.t 9)⟩,⟨some 48,none,.bin .add (.t 47) (.c (.int .i64 1))⟩,⟨some 9,none,.mov (.t 48)⟩]))))))) (.reg [⟨some 41,none,.mov (.t 8)⟩,⟨some 42,none,.bin .add (.t 41) (.c (.int .i64 1))⟩,⟨some 8,none,.mov (.t 42)⟩])))))) (.seq (.reg [⟨some 4,none,.mov (.c (.bool true))⟩]) .ret))))))
set_option maxRecDepth 100000 in
theorem tr55 : trFn Tryz.prog Tryz.f55 = some (76, ir55, [.tmp 4]) := by kernel_rfl
theorem spec_l10Cocycle (h : HT) (a : Nat) (S : Nat → Int) (K : Nat → SV) (H : Hp) (n : Nat) (hS : HS h a) (hK : h.At K) (hB : h.By) (hSb : isBy 64 S) (hz : lz a S) :
    FnS Tryz.prog 55 [.arr 1106 K, .arr 64 (bys S)] H n (fun r H' _ => r = bl (tb (normed h a S ∧ cocyc h.p h.m h.c S a)) ∧ H' = H) := by
  have hp := hS.hp
  have ha := hS.ha
  have hk0 := hK.p
  have hk1 := hK.n
  rw [hS.hn] at hk1
  refine FnS.of_body Tryz.func55 tr55 (by simp) (fun hf => ?_)
  dsimp only [argEnv]
  unfold ir55
  (repeat first|refine zG ?_|(refine LS.nilO ?_;intro nq hnq hltq;try refine zU ?_)|(refine MS.new ?_;intro bq hbq hbqf;try refine zU ?_)|(refine MS.nil ?_;intro nq hnq hltq;have hlq:=hltq _ _ (Hp.get_eq _ _ _);clear hltq;try refine zU ?_)|(refine LS.nilQ ?_;try with_reducible intro nq hnq;try refine zU ?_))
  refine RS.call rfl ((FnS.args (concs_cons (conc_arr (fun q hq => rfl)) rfl) (spec_l10Normed h a S K _ _ hS hK hB hSb hz)).mono ?_)
  rintro r H' n3 hn3 ⟨rfl, rfl⟩
  (repeat first|refine zG ?_|(refine LS.nilO ?_;intro nq hnq hltq;try refine zU ?_)|(refine MS.new ?_;intro bq hbq hbqf;try refine zU ?_)|(refine MS.nil ?_;intro nq hnq hltq;have hlq:=hltq _ _ (Hp.get_eq _ _ _);clear hltq;try refine zU ?_)|(refine LS.nilQ ?_;try with_reducible intro nq hnq;try refine zU ?_))
  refine zI ?_ ?_<;>intro h1
  · (repeat first|refine zG ?_|(refine LS.nilO ?_;intro nq hnq hltq;try refine zU ?_)|(refine MS.new ?_;intro bq hbq hbqf;try refine zU ?_)|(refine MS.nil ?_;intro nq hnq hltq;have hlq:=hltq _ _ (Hp.get_eq _ _ _);clear hltq;try refine zU ?_)|(refine LS.nilQ ?_;try with_reducible intro nq hnq;try refine zU ?_))
    exact ⟨_, H, rfl, by exact zD, by rw [tb_false (fun q => h1 q.1)], rfl⟩
  (repeat first|refine zG ?_|(refine LS.nilO ?_;intro nq hnq hltq;try refine zU ?_)|(refine MS.new ?_;intro bq hbq hbqf;try refine zU ?_)|(refine MS.nil ?_;intro nq hnq hltq;have hlq:=hltq _ _ (Hp.get_eq _ _ _);clear hltq;try refine zU ?_)|(refine LS.nilQ ?_;try with_reducible intro nq hnq;try refine zU ?_))
  refine CS.iter a (fun i => [(6, i64 i), (2, ptr n 0), (3, ptr (n + 1) 0), (5, ptr n3 0)])
    (fun i => (n3, ⟨512, bys (rowsTo (fun _ => 0) (legs h.p h.m h.c S) (8 * i)), 33⟩) :: (n + 1, ⟨64, bys S, 29⟩) :: (n, ⟨1106, K, 35⟩) :: H) (fun _ => True) (by (repeat first | exact trivial | refine And.intro rfl ?_))
    (Drops.keepc rfl rfl (fun _ _ => by rw [show rowsTo (fun _ => 0) (legs h.p h.m h.c S) (8 * 0) = fun _ => 0 from rowsTo_zero _ _]; rfl) (Drops.refl _ _)) trivial ?_
  intro i n4 hi hn4 _
  (repeat first|refine zG ?_|(refine LS.nilO ?_;intro nq hnq hltq;try refine zU ?_)|(refine MS.new ?_;intro bq hbq hbqf;try refine zU ?_)|(refine MS.nil ?_;intro nq hnq hltq;have hlq:=hltq _ _ (Hp.get_eq _ _ _);clear hltq;try refine zU ?_)|(refine LS.nilQ ?_;try with_reducible intro nq hnq;try refine zU ?_))
  refine zI ?_ ?_<;>intro h2
  · (repeat first|refine zG ?_|(refine LS.nilO ?_;intro nq hnq hltq;try refine zU ?_)|(refine MS.new ?_;intro bq hbq hbqf;try refine zU ?_)|(refine MS.nil ?_;intro nq hnq hltq;have hlq:=hltq _ _ (Hp.get_eq _ _ _);clear hltq;try refine zU ?_)|(refine LS.nilQ ?_;try with_reducible intro nq hnq;try refine zU ?_))
    refine CS.iter a (fun j => [(7, i64 j), (6, i64 i), (2, ptr n 0), (3, ptr (n + 1) 0), (5, ptr n3 0)])
      (fun j => (n3, ⟨512, bys (rowsTo (fun _ => 0) (legs h.p h.m h.c S) (8 * i + j)), 33⟩) :: (n + 1, ⟨64, bys S, 29⟩) :: (n, ⟨1106, K, 35⟩) :: H) (fun _ => True) (by (repeat first | exact trivial | refine And.intro rfl ?_)) (Drops.refl _ _) trivial ?_
    intro j n5 hj hn5 _
    (repeat first|refine zG ?_|(refine LS.nilO ?_;intro nq hnq hltq;try refine zU ?_)|(refine MS.new ?_;intro bq hbq hbqf;try refine zU ?_)|(refine MS.nil ?_;intro nq hnq hltq;have hlq:=hltq _ _ (Hp.get_eq _ _ _);clear hltq;try refine zU ?_)|(refine LS.nilQ ?_;try with_reducible intro nq hnq;try refine zU ?_))
    refine zI ?_ ?_<;>intro h3
    · (repeat first|refine zG ?_|(refine LS.nilO ?_;intro nq hnq hltq;try refine zU ?_)|(refine MS.new ?_;intro bq hbq hbqf;try refine zU ?_)|(refine MS.nil ?_;intro nq hnq hltq;have hlq:=hltq _ _ (Hp.get_eq _ _ _);clear hltq;try refine zU ?_)|(refine LS.nilQ ?_;try with_reducible intro nq hnq;try refine zU ?_))
      refine LS.callQ (.arr 8 (bys (leg h.p h.m h.c S i j))) rfl (fun n' hn' => FnS.args (concs_cons (conc_arr (fun q hq => rfl)) rfl) (spec_l10Product h a S i j (by omega) (by omega) K _ _ hS hK hB hSb)) ?_
      (repeat first|refine zG ?_|(refine LS.nilO ?_;intro nq hnq hltq;try refine zU ?_)|(refine MS.new ?_;intro bq hbq hbqf;try refine zU ?_)|(refine MS.nil ?_;intro nq hnq hltq;have hlq:=hltq _ _ (Hp.get_eq _ _ _);clear hltq;try refine zU ?_)|(refine LS.nilQ ?_;try with_reducible intro nq hnq;try refine zU ?_))
      refine ⟨by omega, by (repeat first | exact trivial | refine And.intro rfl ?_), Drops.keepc rfl rfl (fun q hq => ?_) (Drops.refl _ _), trivial⟩
      rw [show 64 * i + 8 * j = 8 * (8 * i + j) by omega]
      exact rowsTo_step (fun y hy => by rw [show 8 * (8 * i + j) = 64 * i + 8 * j by omega, legs_at _ _ _ _ _ _ _ (by omega) hy]) q
    · have : j = a := by omega
      subst this
      (repeat first|refine zG ?_|(refine LS.nilO ?_;intro nq hnq hltq;try refine zU ?_)|(refine MS.new ?_;intro bq hbq hbqf;try refine zU ?_)|(refine MS.nil ?_;intro nq hnq hltq;have hlq:=hltq _ _ (Hp.get_eq _ _ _);clear hltq;try refine zU ?_)|(refine LS.nilQ ?_;try with_reducible intro nq hnq;try refine zU ?_))
      exact ⟨by omega, by (repeat first | exact trivial | refine And.intro rfl ?_), Drops.keepc rfl rfl (fun q hq => by
        rw [rowsTo_more (x := 8 * i + j) (y := 8 * (i + 1)) (by omega) (fun q q1 q2 => by unfold legs; rw [leg_zero hS.cm (by omega) (by omega) (by omega)])]) (Drops.refl _ _), trivial⟩
  have : i = a := by omega
  subst this
  (repeat first|refine zG ?_|(refine LS.nilO ?_;intro nq hnq hltq;try refine zU ?_)|(refine MS.new ?_;intro bq hbq hbqf;try refine zU ?_)|(refine MS.nil ?_;intro nq hnq hltq;have hlq:=hltq _ _ (Hp.get_eq _ _ _);clear hltq;try refine zU ?_)|(refine LS.nilQ ?_;try with_reducible intro nq hnq;try refine zU ?_))
  refine CS.iter i (fun x => [(8, i64 x), (2, ptr n 0), (3, ptr (n + 1) 0), (5, ptr n3 0)]) (fun _ => (n3, ⟨512, bys (rowsTo (fun _ => 0) (legs h.p h.m h.c S) (8 * i)), 33⟩) :: (n + 1, ⟨64, bys S, 29⟩) :: (n, ⟨1106, K, 35⟩) :: H)
    (fun x => Bx (∀ i' j k : Nat, i' < x → j < i → k < i → bil h.p S (leg h.p h.m h.c S i' j) (bas k) = bil h.p S (bas i') (leg h.p h.m h.c S j k))) (by (repeat first | exact trivial | refine And.intro rfl ?_)) (by exact zD) ⟨fun _ _ _ h => by omega⟩ ?_
  intro x n5 hx hn5 hJ
  (repeat first|refine zG ?_|(refine LS.nilO ?_;intro nq hnq hltq;try refine zU ?_)|(refine MS.new ?_;intro bq hbq hbqf;try refine zU ?_)|(refine MS.nil ?_;intro nq hnq hltq;have hlq:=hltq _ _ (Hp.get_eq _ _ _);clear hltq;try refine zU ?_)|(refine LS.nilQ ?_;try with_reducible intro nq hnq;try refine zU ?_))
  refine zI ?_ ?_<;>intro h3
  · (repeat first|refine zG ?_|(refine LS.nilO ?_;intro nq hnq hltq;try refine zU ?_)|(refine MS.new ?_;intro bq hbq hbqf;try refine zU ?_)|(refine MS.nil ?_;intro nq hnq hltq;have hlq:=hltq _ _ (Hp.get_eq _ _ _);clear hltq;try refine zU ?_)|(refine LS.nilQ ?_;try with_reducible intro nq hnq;try refine zU ?_))
    refine CS.iter i (fun j => [(9, i64 j), (8, i64 x), (2, ptr n 0), (3, ptr (n + 1) 0), (5, ptr n3 0)]) (fun _ => (n3, ⟨512, bys (rowsTo (fun _ => 0) (legs h.p h.m h.c S) (8 * i)), 33⟩) :: (n + 1, ⟨64, bys S, 29⟩) :: (n, ⟨1106, K, 35⟩) :: H)
      (fun j => Bx (∀ j' k : Nat, j' < j → k < i → bil h.p S (leg h.p h.m h.c S x j') (bas k) = bil h.p S (bas x) (leg h.p h.m h.c S j' k))) (by (repeat first | exact trivial | refine And.intro rfl ?_)) (by exact zD) ⟨fun _ _ h => by omega⟩ ?_
    intro j n6 hj hn6 hJ2
    (repeat first|refine zG ?_|(refine LS.nilO ?_;intro nq hnq hltq;try refine zU ?_)|(refine MS.new ?_;intro bq hbq hbqf;try refine zU ?_)|(refine MS.nil ?_;intro nq hnq hltq;have hlq:=hltq _ _ (Hp.get_eq _ _ _);clear hltq;try refine zU ?_)|(refine LS.nilQ ?_;try with_reducible intro nq hnq;try refine zU ?_))
    refine zI ?_ ?_<;>intro h4
    · (repeat first|refine zG ?_|(refine LS.nilO ?_;intro nq hnq hltq;try refine zU ?_)|(refine MS.new ?_;intro bq hbq hbqf;try refine zU ?_)|(refine MS.nil ?_;intro nq hnq hltq;have hlq:=hltq _ _ (Hp.get_eq _ _ _);clear hltq;try refine zU ?_)|(refine LS.nilQ ?_;try with_reducible intro nq hnq;try refine zU ?_))
      refine CS.iter i (fun k => [(10, i64 k), (9, i64 j), (8, i64 x), (2, ptr n 0), (3, ptr (n + 1) 0), (5, ptr n3 0)]) (fun _ => (n3, ⟨512, bys (rowsTo (fun _ => 0) (legs h.p h.m h.c S) (8 * i)), 33⟩) :: (n + 1, ⟨64, bys S, 29⟩) :: (n, ⟨1106, K, 35⟩) :: H)
        (fun k => Bx (∀ k' : Nat, k' < k → bil h.p S (leg h.p h.m h.c S x j) (bas k') = bil h.p S (bas x) (leg h.p h.m h.c S j k'))) (by (repeat first | exact trivial | refine And.intro rfl ?_)) (by exact zD) ⟨fun _ h => by omega⟩ ?_
      intro k n7 hk hn7 hJ3
      (repeat first|refine zG ?_|(refine LS.nilO ?_;intro nq hnq hltq;try refine zU ?_)|(refine MS.new ?_;intro bq hbq hbqf;try refine zU ?_)|(refine MS.nil ?_;intro nq hnq hltq;have hlq:=hltq _ _ (Hp.get_eq _ _ _);clear hltq;try refine zU ?_)|(refine LS.nilQ ?_;try with_reducible intro nq hnq;try refine zU ?_))
      refine zI ?_ ?_<;>intro h5
      · have hr : ∀ q, q < 8 → (bys (rowsTo (fun _ => 0) (legs h.p h.m h.c S) (8 * i))) (64 * x + 8 * j + q) = .int .u8 (leg h.p h.m h.c S x j q) := fun q hq => by
          simp only [bys, rowsTo]; rw [if_pos (by omega), legs_at _ _ _ _ _ _ _ (by omega) hq]
        have hr2 : ∀ q, q < 8 → (bys (rowsTo (fun _ => 0) (legs h.p h.m h.c S) (8 * i))) (64 * j + 8 * k + q) = .int .u8 (leg h.p h.m h.c S j k q) := fun q hq => by
          simp only [bys, rowsTo]; rw [if_pos (by omega), legs_at _ _ _ _ _ _ _ (by omega) hq]
        (repeat first|refine zG ?_|(refine LS.nilO ?_;intro nq hnq hltq;try refine zU ?_)|(refine MS.new ?_;intro bq hbq hbqf;try refine zU ?_)|(refine MS.nil ?_;intro nq hnq hltq;have hlq:=hltq _ _ (Hp.get_eq _ _ _);clear hltq;try refine zU ?_)|(refine LS.nilQ ?_;try with_reducible intro nq hnq;try refine zU ?_))
        refine CS.quietLo ?_
        (repeat first|refine zG ?_|(refine LS.nilO ?_;intro nq hnq hltq;try refine zU ?_)|(refine MS.new ?_;intro bq hbq hbqf;try refine zU ?_)|(refine MS.nil ?_;intro nq hnq hltq;have hlq:=hltq _ _ (Hp.get_eq _ _ _);clear hltq;try refine zU ?_)|(refine LS.nilQ ?_;try with_reducible intro nq hnq;try refine zU ?_))
        refine LS.callQ (.arr 8 (bys (bas k))) rfl (fun n' hn' => spec_l01Basis k _ _ (by omega)) ?_
        (repeat first|refine zG ?_|(refine LS.nilO ?_;intro nq hnq hltq;try refine zU ?_)|(refine MS.new ?_;intro bq hbq hbqf;try refine zU ?_)|(refine MS.nil ?_;intro nq hnq hltq;have hlq:=hltq _ _ (Hp.get_eq _ _ _);clear hltq;try refine zU ?_)|(refine LS.nilQ ?_;try with_reducible intro nq hnq;try refine zU ?_))
        obtain ⟨x1, hx1⟩ : ∃ y, y = bil h.p S (leg h.p h.m h.c S x j) (bas k) := ⟨_, rfl⟩
        obtain ⟨x2, hx2⟩ : ∃ y, y = bil h.p S (bas x) (leg h.p h.m h.c S j k) := ⟨_, rfl⟩
        refine LS.callQ (i64 x1) rfl (fun n' hn' => by rw [hx1]; exact spec_l10Value h i S (leg h.p h.m h.c S x j) (bas k) K _ _ hS hK hSb hz ((lg_res hp.1 _ _ _ _ _ _ _ 8).by hp.2) (bas_by _ _)) ?_
        (repeat first|refine zG ?_|(refine LS.nilO ?_;intro nq hnq hltq;try refine zU ?_)|(refine MS.new ?_;intro bq hbq hbqf;try refine zU ?_)|(refine MS.nil ?_;intro nq hnq hltq;have hlq:=hltq _ _ (Hp.get_eq _ _ _);clear hltq;try refine zU ?_)|(refine LS.nilQ ?_;try with_reducible intro nq hnq;try refine zU ?_))
        refine LS.callQ (.arr 8 (bys (bas x))) rfl (fun n' hn' => spec_l01Basis x _ _ (by omega)) ?_
        (repeat first|refine zG ?_|(refine LS.nilO ?_;intro nq hnq hltq;try refine zU ?_)|(refine MS.new ?_;intro bq hbq hbqf;try refine zU ?_)|(refine MS.nil ?_;intro nq hnq hltq;have hlq:=hltq _ _ (Hp.get_eq _ _ _);clear hltq;try refine zU ?_)|(refine LS.nilQ ?_;try with_reducible intro nq hnq;try refine zU ?_))
        refine LS.callQ (i64 x2) rfl (fun n' hn' => by rw [hx2]; exact spec_l10Value h i S (bas x) (leg h.p h.m h.c S j k) K _ _ hS hK hSb hz (bas_by _ _) ((lg_res hp.1 _ _ _ _ _ _ _ 8).by hp.2)) ?_
        (repeat first|refine zG ?_|(refine LS.nilO ?_;intro nq hnq hltq;try refine zU ?_)|(refine MS.new ?_;intro bq hbq hbqf;try refine zU ?_)|(refine MS.nil ?_;intro nq hnq hltq;have hlq:=hltq _ _ (Hp.get_eq _ _ _);clear hltq;try refine zU ?_)|(refine LS.nilQ ?_;try with_reducible intro nq hnq;try refine zU ?_))
        refine zI ?_ ?_<;>intro h6
        · (repeat first|refine zG ?_|(refine LS.nilO ?_;intro nq hnq hltq;try refine zU ?_)|(refine MS.new ?_;intro bq hbq hbqf;try refine zU ?_)|(refine MS.nil ?_;intro nq hnq hltq;have hlq:=hltq _ _ (Hp.get_eq _ _ _);clear hltq;try refine zU ?_)|(refine LS.nilQ ?_;try with_reducible intro nq hnq;try refine zU ?_))
          exact ⟨_, H, rfl, by exact zD, by rw [tb_false (fun q => h6 (by rw [hx1, hx2]; exact q.2 x j k (by omega) (by omega) (by omega)))], rfl⟩
        · (repeat first|refine zG ?_|(refine LS.nilO ?_;intro nq hnq hltq;try refine zU ?_)|(refine MS.new ?_;intro bq hbq hbqf;try refine zU ?_)|(refine MS.nil ?_;intro nq hnq hltq;have hlq:=hltq _ _ (Hp.get_eq _ _ _);clear hltq;try refine zU ?_)|(refine LS.nilQ ?_;try with_reducible intro nq hnq;try refine zU ?_))
          refine ⟨by omega, by (repeat first | exact trivial | refine And.intro rfl ?_), by exact zD, ⟨fun k' hk' => ?_⟩⟩
          by_cases e : k' = k
          · subst e; rw [← hx1, ← hx2]; exact h6
          · exact hJ3.1 k' (by omega)
      · have : k = i := by omega
        subst this
        (repeat first|refine zG ?_|(refine LS.nilO ?_;intro nq hnq hltq;try refine zU ?_)|(refine MS.new ?_;intro bq hbq hbqf;try refine zU ?_)|(refine MS.nil ?_;intro nq hnq hltq;have hlq:=hltq _ _ (Hp.get_eq _ _ _);clear hltq;try refine zU ?_)|(refine LS.nilQ ?_;try with_reducible intro nq hnq;try refine zU ?_))
        refine ⟨by omega, by (repeat first | exact trivial | refine And.intro rfl ?_), by exact zD, ⟨fun j' k' hj' => ?_⟩⟩
        by_cases e : j' = j
        · subst e; exact fun hk' => hJ3.1 k' hk'
        · exact hJ2.1 j' k' (by omega)
    · have : j = i := by omega
      subst this
      (repeat first|refine zG ?_|(refine LS.nilO ?_;intro nq hnq hltq;try refine zU ?_)|(refine MS.new ?_;intro bq hbq hbqf;try refine zU ?_)|(refine MS.nil ?_;intro nq hnq hltq;have hlq:=hltq _ _ (Hp.get_eq _ _ _);clear hltq;try refine zU ?_)|(refine LS.nilQ ?_;try with_reducible intro nq hnq;try refine zU ?_))
      refine ⟨by omega, by (repeat first | exact trivial | refine And.intro rfl ?_), by exact zD, ⟨fun i' j' k' hi' => ?_⟩⟩
      by_cases e : i' = x
      · subst e; exact fun hj' hk' => hJ2.1 j' k' hj' hk'
      · exact hJ.1 i' j' k' (by omega)
  · have : x = i := by omega
    subst this
    (repeat first|refine zG ?_|(refine LS.nilO ?_;intro nq hnq hltq;try refine zU ?_)|(refine MS.new ?_;intro bq hbq hbqf;try refine zU ?_)|(refine MS.nil ?_;intro nq hnq hltq;have hlq:=hltq _ _ (Hp.get_eq _ _ _);clear hltq;try refine zU ?_)|(refine LS.nilQ ?_;try with_reducible intro nq hnq;try refine zU ?_))
    exact ⟨_, H, rfl, by exact zD, by rw [tb_true (show normed h x S ∧ cocyc h.p h.m h.c S x from ⟨h1, hJ.1⟩)], rfl⟩
/-- (*impl.Hopf).timesFirst -/
def ir63 : Cd := (.seq (.reg [⟨some 3,none,.box 55 (.t 0)⟩,⟨some 5,none,.box 100 (.t 2)⟩,⟨some 6,none,.new 33 [(512,(.int .u8 0))]⟩]) (.seq (.reg [⟨some 9,none,.ld none (.t 3)⟩,⟨some 10,none,.call 49 [(.t 9)]⟩,⟨some 11,none,.build 512 [(512,(.int .u8 0))] []⟩,⟨some 7,none,.new 85 [(2,(.int .i64 0))]⟩,⟨some 8,none,.new 33 [(512,(.int .u8 0))]⟩,⟨none,none,.st 2 (.t 7) (.t 10)⟩,⟨none,none,.st 512 (.t 8) (.t 11)⟩]) (.seq (.reg [⟨some 12,none,.mov (.t 1)⟩,⟨some 13,none,.mkf 89 [] [(.t 7),(.t 3),(.t 8),(.t 5)]⟩,⟨some 14,none,.call 51 [(.t 12),(.t 13)]⟩]) (.seq (.reg [⟨some 15,none,.ld (some 512) (.t 8)⟩,⟨none,none,.st 512 (.t 6) (.t 15)⟩]) .ret))))
set_option maxRecDepth 100000 in
theorem tr63 : trFn Tryz.prog Tryz.f63 = some (16, ir63, [.cell (some 512) 6]) := by kernel_rfl
theorem Hopf_timesFirst (h : HT) (a : Nat) (S T : Nat → Int) (b bs os bT oT : Nat) (K Ks KT : Blk) (H : Hp) (n : Nat) (hS : HS h a) (hb : H.get b = some K) (hsz : K.size = 1106) (hK : h.At K.c) (hB : h.By) (hs : isBy 64 S) (hT : isBy 512 T)
    (hbs : H.get bs = some Ks) (ho : os + 64 ≤ Ks.size) (hc : ∀ i, i < 64 → Ks.c (os + i) = .int .u8 (S i))
    (gT : H.get bT = some KT) (sT : oT + 512 ≤ KT.size) (cT : ∀ q, q < 512 → KT.c (oT + q) = .int .u8 (T q)) :
    FnS Tryz.prog 63 [ptr b 0, ptr bs os, ptr bT oT] H n (fun r H' _ => r = .arr 512 (bys (tmf h.p h.m S T)) ∧ H' = H) := by
  have hp := hS.hp
  have ha := hS.ha
  have hk1 := hK.n
  rw [hS.hn] at hk1
  refine FnS.of_body Tryz.func63 tr63 (by simp) (fun hf => ?_)
  dsimp only [argEnv]
  unfold ir63
  have hbn := getlt hf hb
  have hbn2 := getlt hf hbs
  have hbn3 := getlt hf gT
  (repeat first|refine zG ?_|(refine LS.nilO ?_;intro nq hnq hltq;try refine zU ?_)|(refine MS.new ?_;intro bq hbq hbqf;try refine zU ?_)|(refine MS.nil ?_;intro nq hnq hltq;have hlq:=hltq _ _ (Hp.get_eq _ _ _);clear hltq;try refine zU ?_)|(refine LS.nilQ ?_;try with_reducible intro nq hnq;try refine zU ?_))
  refine RS.call rfl ((Hopf_field h.p a b K _ _ (by exact zH) hsz hK.p hk1 (by omega)).mono ?_)
  rintro r H n2 hn2 ⟨rfl, rfl⟩
  (repeat first|refine zG ?_|(refine LS.nilO ?_;intro nq hnq hltq;try refine zU ?_)|(refine MS.new ?_;intro bq hbq hbqf;try refine zU ?_)|(refine MS.nil ?_;intro nq hnq hltq;have hlq:=hltq _ _ (Hp.get_eq _ _ _);clear hltq;try refine zU ?_)|(refine LS.nilQ ?_;try with_reducible intro nq hnq;try refine zU ?_))
  refine RS.call rfl ((impl_pairs S bs os _ _ (fun t => (n2 + 1, ⟨512, bys (tfs h.p h.m S T a t 0 0), 33⟩) :: (n2, ⟨2, fldC h.p a, 85⟩) :: (n + 2, ⟨512, fun _ => .int .u8 0, 33⟩) :: (n + 1, ⟨1, fun _ => .ptr bT oT, 100⟩) :: (n, ⟨1, fun _ => .ptr b 0, 55⟩) :: H) _ _ (by (try dsimp only); rw [tfs_zero]; rfl)
    (fun s hs => ⟨Ks, by exact zH, ho, hc⟩) hs (fun t ht hz => by (try dsimp only); rw [tfs_skip hz]) (fun t j k n' ht ht' hk hz hn' => ?_)).mono ?_)
  · refine (Hopf_timesFirst_1 h a S T t j k ht' (by omega) hk b bT oT (n + 1) n n2 (n2 + 1) K KT _ _ _ n' hS (by exact zH) hsz hK hB hs hT (by exact zH) sT cT (by exact zH) rfl rfl (by exact zH) rfl rfl (by exact zH) (by exact zH) (by omega) (by omega) (by omega) (by omega) (by omega)).mono ?_
    rintro r H' n3 hn3 rfl
    simp (disch := omega) only [Hp.set_eq, Hp.set_ne, Hp.set_set]
  rintro r H' n3 hn3 rfl
  (repeat first|refine zG ?_|(refine LS.nilO ?_;intro nq hnq hltq;try refine zU ?_)|(refine MS.new ?_;intro bq hbq hbqf;try refine zU ?_)|(refine MS.nil ?_;intro nq hnq hltq;have hlq:=hltq _ _ (Hp.get_eq _ _ _);clear hltq;try refine zU ?_)|(refine LS.nilQ ?_;try with_reducible intro nq hnq;try refine zU ?_))
  exact ⟨.arr 512 (bys (tmf h.p h.m S T)), _, conc_arr (fun q hq => by simp only [Nat.zero_add, bys]; rw [tfs_end hS.mm ha hq]), by exact zD, rfl, rfl⟩
end Go.Proofs.YtbknndbfbebkdabGreatR
