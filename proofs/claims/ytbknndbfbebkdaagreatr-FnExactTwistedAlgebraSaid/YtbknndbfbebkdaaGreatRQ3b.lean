/- Contracts of the program's functions. -/
import Derived.Test.YtbknndbfbebkdaaGreatRR
import Derived.Test.YtbknndbfbebkdaaGreatRLW
import Derived.Test.YtbknndbfbebkdaaGreatRQ2a
import Derived.Test.YtbknndbfbebkdaaGreatRQ2b
import Derived.Test.YtbknndbfbebkdaaGreatRQ2c
namespace Go.Proofs.YtbknndbfbebkdaaGreatR
open Go.V
set_option linter.unusedSimpArgs false
set_option linter.unusedVariables false
set_option maxHeartbeats 4000000
/-- spec.l01Times -/
def ir76 : Cd := (.seq (.reg [⟨some 3,none,.box 40 (.t 0)⟩,⟨some 4,none,.box 29 (.t 1)⟩,⟨some 5,none,.box 29 (.t 2)⟩,⟨some 6,none,.new 29 [(8,(.int .u8 0))]⟩]) (.seq (.reg [⟨some 9,none,.build 8 [(8,(.int .u8 0))] []⟩,⟨some 7,none,.new 29 [(8,(.int .u8 0))]⟩,⟨none,none,.st 8 (.t 7) (.t 9)⟩]) (.seq (.seq (.reg [⟨some 8,none,.mov (.c (.int .i64 0))⟩]) (.block 0 (.loop (.seq (.seq (.reg [⟨some 10,none,.mov (.t 8)⟩,⟨some 11,none,.fa 1 (.t 3)⟩,⟨some 12,none,.ld none (.t 11)⟩,⟨some 13,none,.bin .lss (.t 10) (.t 12)⟩]) (.cond (.t 13) .skip (.exit 0))) (.seq (.block 1 (.seq (.reg [⟨some 16,none,.mov (.t 8)⟩,⟨some 17,none,.ia 8 1 (.t 4) (.t 16)⟩,⟨some 18,none,.ld none (.t 17)⟩,⟨some 19,none,.bin .neq (.t 18) (.c (.int .u8 0))⟩]) (.cond (.t 19) (.drwo true [17,18] [0,1,2,3,4,5,6,7,8,9,10,11,13,14,15,16,12,17,18] [⟨some 20,none,.fa 0 (.t 3)⟩,⟨some 21,none,.ld none (.t 20)⟩,⟨some 22,none,.ld (some 8) (.t 7)⟩,⟨some 23,none,.fa 0 (.t 3)⟩,⟨some 24,none,.ld none (.t 23)⟩,⟨some 25,none,.fa 1 (.t 3)⟩,⟨some 26,none,.ld none (.t 25)⟩,⟨some 27,none,.mov (.t 8)⟩,⟨some 28,none,.fa 10 (.t 3)⟩,⟨some 29,none,.ia 8 64 (.t 28) (.t 27)⟩,⟨some 30,none,.ld (some 64) (.t 29)⟩,⟨some 31,none,.ld (some 8) (.t 5)⟩,⟨some 32,none,.call 99 [(.t 24),(.t 26),(.t 30),(.t 31)]⟩,⟨some 33,none,.mov (.t 8)⟩,⟨some 34,none,.ia 8 1 (.t 4) (.t 33)⟩,⟨some 35,none,.ld none (.t 34)⟩,⟨some 36,none,.cv .i64 (.t 35)⟩,⟨some 37,none,.call 59 [(.t 21),(.t 22),(.t 32),(.t 36)]⟩,⟨none,none,.st 8 (.t 7) (.t 37)⟩]) .skip))) (.reg [⟨some 14,none,.mov (.t 8)⟩,⟨some 15,none,.bin .add (.t 14) (.c (.int .i64 1))⟩,⟨some 8,none,.mov (.t 15)⟩])))))) (.seq (.reg [⟨some 38,none,.ld (some 8) (.t 7)⟩,⟨none,none,.st 8 (.t 6) (.t 38)⟩]) .ret))))
set_option maxRecDepth 100000 in
theorem tr76 : trFn Tryz.prog Tryz.f76 = some (39, ir76, [.cell (some 8) 6]) := by kernel_rfl
theorem spec_l01Times (p : Int) (a : Nat) (m v w : Nat → Int) (K : Nat → SV) (H : Hp) (n : Nat) (hp : 2 ≤ p ∧ p ≤ 31) (ha : a ≤ 8) (h0 : K 0 = .int .i64 p) (h1 : K 1 = .int .i64 a)
    (hK : ∀ q, q < 512 → K (10 + q) = .int .u8 (m q)) (hm : isBy 512 m) (hv : isBy 8 v) (hw : isBy 8 w) :
    FnS Tryz.prog 76 [.arr 522 K, .arr 8 (bys v), .arr 8 (bys w)] H n (fun r H' _ => r = .arr 8 (bys (pr p m v w a)) ∧ H' = H) := by
  refine FnS.of_body Tryz.func76 tr76 (by simp) (fun hf => ?_)
  dsimp only [argEnv]
  unfold ir76
  (repeat first|refine zG ?_|(refine LS.nilO ?_;intro nq hnq hltq;try refine zU ?_)|(refine MS.new ?_;intro bq hbq hbqf;try refine zU ?_)|(refine MS.nil ?_;intro nq hnq hltq;have hlq:=hltq _ _ (Hp.get_eq _ _ _);clear hltq;try refine zU ?_)|(refine LS.nilQ ?_;try with_reducible intro nq hnq;try refine zU ?_))
  refine CS.iter a (fun i => [(8, i64 i), (3, ptr n 0), (4, ptr (n + 1) 0), (5, ptr (n + 2) 0), (6, ptr (n + 3) 0), (7, ptr (n + 4) 0)])
    (fun i => (n + 4, ⟨8, bys (pk p m v w a i 0), 29⟩) :: (n + 3, ⟨8, bys (fun _ => 0), 29⟩) :: (n + 2, ⟨8, bys w, 29⟩) :: (n + 1, ⟨8, bys v, 29⟩) :: (n, ⟨522, K, 40⟩) :: H) (fun _ => True) (by (repeat first | exact trivial | refine And.intro rfl ?_))
    (Drops.keepc rfl rfl (fun _ _ => by rw [pk_zero]; rfl) (Drops.keepc rfl rfl (fun _ _ => rfl) (Drops.refl _ _))) trivial ?_
  intro i n1 hi hn _
  (repeat first|refine zG ?_|(refine LS.nilO ?_;intro nq hnq hltq;try refine zU ?_)|(refine MS.new ?_;intro bq hbq hbqf;try refine zU ?_)|(refine MS.nil ?_;intro nq hnq hltq;have hlq:=hltq _ _ (Hp.get_eq _ _ _);clear hltq;try refine zU ?_)|(refine LS.nilQ ?_;try with_reducible intro nq hnq;try refine zU ?_))
  refine zI ?_ ?_<;>intro h2
  · have hvi := hv i (by omega)
    (repeat first|refine zG ?_|(refine LS.nilO ?_;intro nq hnq hltq;try refine zU ?_)|(refine MS.new ?_;intro bq hbq hbqf;try refine zU ?_)|(refine MS.nil ?_;intro nq hnq hltq;have hlq:=hltq _ _ (Hp.get_eq _ _ _);clear hltq;try refine zU ?_)|(refine LS.nilQ ?_;try with_reducible intro nq hnq;try refine zU ?_))
    refine zI ?_ ?_<;>intro h3
    · (repeat first|refine zG ?_|(refine LS.nilO ?_;intro nq hnq hltq;try refine zU ?_)|(refine MS.new ?_;intro bq hbq hbqf;try refine zU ?_)|(refine MS.nil ?_;intro nq hnq hltq;have hlq:=hltq _ _ (Hp.get_eq _ _ _);clear hltq;try refine zU ?_)|(refine LS.nilQ ?_;try with_reducible intro nq hnq;try refine zU ?_))
      refine CS.tailLo _ (List.Mem.head _) ?_; dsimp only [List.take, List.drop]
      (repeat first|refine zG ?_|(refine LS.nilO ?_;intro nq hnq hltq;try refine zU ?_)|(refine MS.new ?_;intro bq hbq hbqf;try refine zU ?_)|(refine MS.nil ?_;intro nq hnq hltq;have hlq:=hltq _ _ (Hp.get_eq _ _ _);clear hltq;try refine zU ?_)|(refine LS.nilQ ?_;try with_reducible intro nq hnq;try refine zU ?_))
      refine LS.callQ (.arr 8 (bys (apk p (fun q => m (64 * i + q)) w a))) rfl (fun n' hn' => spec_l01Apply p a (fun q => m (64 * i + q)) w _ _ hp ha (fun q hq => hm _ (by omega)) hw) ?_
      (repeat first|refine zG ?_|(refine LS.nilO ?_;intro nq hnq hltq;try refine zU ?_)|(refine MS.new ?_;intro bq hbq hbqf;try refine zU ?_)|(refine MS.nil ?_;intro nq hnq hltq;have hlq:=hltq _ _ (Hp.get_eq _ _ _);clear hltq;try refine zU ?_)|(refine LS.nilQ ?_;try with_reducible intro nq hnq;try refine zU ?_))
      refine RS.call rfl ((spec_l01Add p (v i) (pk p m v w a i 0) (apk p (fun q => m (64 * i + q)) w a) _ _ hp (fun q hq => by have := pk_res hp.1 m v w a i 0 8 q hq; omega) (fun q hq => by have := apk_res hp.1 (fun q => m (64 * i + q)) w a 8 q hq; omega) (by omega)).mono ?_)
      rintro r H' n2 hn2 ⟨rfl, rfl⟩
      (repeat first|refine zG ?_|(refine LS.nilO ?_;intro nq hnq hltq;try refine zU ?_)|(refine MS.new ?_;intro bq hbq hbqf;try refine zU ?_)|(refine MS.nil ?_;intro nq hnq hltq;have hlq:=hltq _ _ (Hp.get_eq _ _ _);clear hltq;try refine zU ?_)|(refine LS.nilQ ?_;try with_reducible intro nq hnq;try refine zU ?_))
      exact ⟨by omega, by (repeat first | exact trivial | refine And.intro rfl ?_), Drops.keepc rfl rfl (fun q hq => by rw [pk_whole]) (Drops.refl _ _), trivial⟩
    · (repeat first|refine zG ?_|(refine LS.nilO ?_;intro nq hnq hltq;try refine zU ?_)|(refine MS.new ?_;intro bq hbq hbqf;try refine zU ?_)|(refine MS.nil ?_;intro nq hnq hltq;have hlq:=hltq _ _ (Hp.get_eq _ _ _);clear hltq;try refine zU ?_)|(refine LS.nilQ ?_;try with_reducible intro nq hnq;try refine zU ?_))
      exact ⟨by omega, by (repeat first | exact trivial | refine And.intro rfl ?_), by rw [pk_skip h3]; exact Drops.refl _ _, trivial⟩
  · have : i = a := by omega
    subst this
    (repeat first|refine zG ?_|(refine LS.nilO ?_;intro nq hnq hltq;try refine zU ?_)|(refine MS.new ?_;intro bq hbq hbqf;try refine zU ?_)|(refine MS.nil ?_;intro nq hnq hltq;have hlq:=hltq _ _ (Hp.get_eq _ _ _);clear hltq;try refine zU ?_)|(refine LS.nilQ ?_;try with_reducible intro nq hnq;try refine zU ?_))
    exact ⟨.arr 8 (bys (pr p m v w i)), H, conc_arr (fun q hq => by simp only [Nat.zero_add]; rfl), by exact zD, rfl, rfl⟩
/-- (*impl.Algebra).fault -/
def ir129 : Cd := (.seq (.reg [⟨some 2,none,.mov (.c .nils)⟩]) (.seq (.reg [⟨some 7,none,.mov (.t 0)⟩,⟨some 8,none,.ck (.t 7)⟩,⟨some 9,none,.fa 1 (.t 8)⟩,⟨some 10,none,.ld none (.t 9)⟩,⟨some 3,none,.mov (.t 10)⟩]) (.seq (.seq (.reg [⟨some 11,none,.mov (.t 3)⟩,⟨some 12,none,.mov (.c (.int .i64 0))⟩]) (.block 0 (.loop (.seq (.reg [⟨some 13,none,.bin .lss (.t 12) (.t 11)⟩]) (.seq (.cond (.t 13) .skip (.exit 0)) (.seq (.block 1 (.seq (.reg [⟨some 14,none,.mov (.t 12)⟩,⟨some 4,none,.mov (.t 14)⟩]) (.seq (.reg [⟨some 15,none,.mov (.t 3)⟩,⟨some 16,none,.mov (.c (.int .i64 0))⟩]) (.block 2 (.loop (.seq (.reg [⟨some 17,none,.bin .lss (.t 16) (.t 15)⟩]) (.seq (.cond (.t 17) .skip (.exit 2)) (.seq (.block 3 (.seq (.reg [⟨some 18,none,.mov (.t 16)⟩,⟨some 5,none,.mov (.t 18)⟩]) (.seq (.reg [⟨some 19,none,.mov (.t 3)⟩,⟨some 20,none,.mov (.c (.int .i64 0))⟩]) (.block 4 (.loop (.seq (.reg [⟨some 21,none,.bin .lss (.t 20) (.t 19)⟩]) (.seq (.cond (.t 21) .skip (.exit 4)) (.seq (.block 5 (.seq (.reg [⟨some 22,none,.mov (.t 20)⟩,⟨some 6,none,.mov (.t 22)⟩]) (.seq (.drwo true [23] [0,1,2,3,4,5,6,7,8,9,12,13,15,16,17,18,19,20,21,22,10,11,14,23,24] [⟨some 23,none,.mov (.t 0)⟩,⟨some 24,none,.mov (.t 0)⟩,⟨some 25,none,.mov (.t 4)⟩,⟨some 26,none,.mov (.t 5)⟩,⟨some 27,none,.ck (.t 24)⟩,⟨some 28,none,.fa 10 (.t 27)⟩,⟨some 29,none,.ia 8 64 (.t 28) (.t 25)⟩,⟨some 30,none,.ia 8 8 (.t 29) (.t 26)⟩,⟨some 31,none,.ld (some 8) (.t 30)⟩,⟨some 32,none,.mov (.t 6)⟩,⟨some 33,none,.call 62 [(.t 32)]⟩,⟨some 34,none,.call 128 [(.t 23),(.t 31),(.t 33)]⟩,⟨some 35,none,.mov (.t 0)⟩,⟨some 36,none,.mov (.t 4)⟩,⟨some 37,none,.call 62 [(.t 36)]⟩,⟨some 38,none,.mov (.t 0)⟩,⟨some 39,none,.mov (.t 5)⟩,⟨some 40,none,.mov (.t 6)⟩,⟨some 41,none,.ck (.t 38)⟩,⟨some 42,none,.fa 10 (.t 41)⟩,⟨some 43,none,.ia 8 64 (.t 42) (.t 39)⟩,⟨some 44,none,.ia 8 8 (.t 43) (.t 40)⟩,⟨some 45,none,.ld (some 8) (.t 44)⟩,⟨some 46,none,.call 128 [(.t 35),(.t 37),(.t 45)]⟩,⟨some 47,none,.eqa true 8 (.t 34) (.t 46)⟩]) (.cond (.t 47) (.seq (.reg [⟨some 48,none,.mov (.t 4)⟩,⟨some 49,none,.mov (.t 5)⟩,⟨some 50,none,.mov (.t 6)⟩,⟨some 51,none,.bsl 2 3 1 [(1,(.int .i64 0))] [(0,1,(.t 48)),(1,1,(.t 49)),(2,1,(.t 50))]⟩,⟨some 2,none,.mov (.t 51)⟩]) .ret) .skip)))) (.reg [⟨some 52,none,.bin .add (.t 20) (.c (.int .i64 1))⟩,⟨some 20,none,.mov (.t 52)⟩]))))))))) (.reg [⟨some 53,none,.bin .add (.t 16) (.c (.int .i64 1))⟩,⟨some 16,none,.mov (.t 53)⟩]))))))))) (.reg [⟨some 54,none,.bin .add (.t 12) (.c (.int .i64 1))⟩,⟨some 12,none,.mov (.t 54)⟩]))))))) (.seq (.reg [⟨some 2,none,.mov (.c .nils)⟩]) .ret))))
set_option maxRecDepth 100000 in
theorem tr129 : trFn Tryz.prog Tryz.f129 = some (55, ir129, [.tmp 2]) := by kernel_rfl
theorem Algebra_fault (p : Int) (a : Nat) (m : Nat → Int) (b : Nat) (K : Blk) (H : Hp) (n : Nat) (hp : 2 ≤ p ∧ p ≤ 31) (ha : a ≤ 8) (hb : H.get b = some K) (hsz : K.size = 522)
    (h0 : K.c 0 = .int .i64 p) (h1 : K.c 1 = .int .i64 a) (hK : ∀ q, q < 512 → K.c (10 + q) = .int .u8 (m q)) (hm : isBy 512 m) :
    FnS Tryz.prog 129 [ptr b 0] H n (fun r H' _ => ((r = .s .nils ∧ assoc p a m) ∨ ((∃ b o l c, r = .s (.slc b o l c)) ∧ ¬assoc p a m)) ∧ H' = H) := by
  refine FnS.of_body Tryz.func129 tr129 (by simp) (fun hf => ?_)
  dsimp only [argEnv]
  unfold ir129
  have hbn := getlt hf hb
  (repeat first|refine zG ?_|(refine LS.nilO ?_;intro nq hnq hltq;try refine zU ?_)|(refine MS.new ?_;intro bq hbq hbqf;try refine zU ?_)|(refine MS.nil ?_;intro nq hnq hltq;have hlq:=hltq _ _ (Hp.get_eq _ _ _);clear hltq;try refine zU ?_)|(refine LS.nilQ ?_;try with_reducible intro nq hnq;try refine zU ?_))
  refine CS.iter a (fun i => [(12, i64 i), (11, i64 a), (3, i64 a), (0, ptr b 0)]) (fun _ => H)
    (fun i => ∀ i' j k : Nat, i' < i → j < a → k < a → ∀ q, q < 8 → pr p m (fun x => m (64 * i' + 8 * j + x)) (bas k) a q = pr p m (bas i') (fun x => m (64 * j + 8 * k + x)) a q) (by (repeat first | exact trivial | refine And.intro rfl ?_)) (Drops.refl _ _) (fun _ _ _ h => by omega) ?_
  intro i n1 hi hn hJ
  (repeat first|refine zG ?_|(refine LS.nilO ?_;intro nq hnq hltq;try refine zU ?_)|(refine MS.new ?_;intro bq hbq hbqf;try refine zU ?_)|(refine MS.nil ?_;intro nq hnq hltq;have hlq:=hltq _ _ (Hp.get_eq _ _ _);clear hltq;try refine zU ?_)|(refine LS.nilQ ?_;try with_reducible intro nq hnq;try refine zU ?_))
  refine zI ?_ ?_<;>intro h2
  · (repeat first|refine zG ?_|(refine LS.nilO ?_;intro nq hnq hltq;try refine zU ?_)|(refine MS.new ?_;intro bq hbq hbqf;try refine zU ?_)|(refine MS.nil ?_;intro nq hnq hltq;have hlq:=hltq _ _ (Hp.get_eq _ _ _);clear hltq;try refine zU ?_)|(refine LS.nilQ ?_;try with_reducible intro nq hnq;try refine zU ?_))
    refine CS.iter a (fun j => [(16, i64 j), (15, i64 a), (4, i64 i), (12, i64 i), (11, i64 a), (3, i64 a), (0, ptr b 0)]) (fun _ => H)
      (fun j => ∀ j' k : Nat, j' < j → k < a → ∀ q, q < 8 → pr p m (fun x => m (64 * i + 8 * j' + x)) (bas k) a q = pr p m (bas i) (fun x => m (64 * j' + 8 * k + x)) a q) (by (repeat first | exact trivial | refine And.intro rfl ?_)) (Drops.refl _ _) (fun _ _ h => by omega) ?_
    intro j n2 hj hn2 hJ2
    (repeat first|refine zG ?_|(refine LS.nilO ?_;intro nq hnq hltq;try refine zU ?_)|(refine MS.new ?_;intro bq hbq hbqf;try refine zU ?_)|(refine MS.nil ?_;intro nq hnq hltq;have hlq:=hltq _ _ (Hp.get_eq _ _ _);clear hltq;try refine zU ?_)|(refine LS.nilQ ?_;try with_reducible intro nq hnq;try refine zU ?_))
    refine zI ?_ ?_<;>intro h3
    · (repeat first|refine zG ?_|(refine LS.nilO ?_;intro nq hnq hltq;try refine zU ?_)|(refine MS.new ?_;intro bq hbq hbqf;try refine zU ?_)|(refine MS.nil ?_;intro nq hnq hltq;have hlq:=hltq _ _ (Hp.get_eq _ _ _);clear hltq;try refine zU ?_)|(refine LS.nilQ ?_;try with_reducible intro nq hnq;try refine zU ?_))
      refine CS.iter a (fun k => [(20, i64 k), (19, i64 a), (5, i64 j), (16, i64 j), (15, i64 a), (4, i64 i), (12, i64 i), (11, i64 a), (3, i64 a), (0, ptr b 0)]) (fun _ => H)
        (fun k => ∀ k' : Nat, k' < k → ∀ q, q < 8 → pr p m (fun x => m (64 * i + 8 * j + x)) (bas k') a q = pr p m (bas i) (fun x => m (64 * j + 8 * k' + x)) a q) (by (repeat first | exact trivial | refine And.intro rfl ?_)) (Drops.refl _ _) (fun _ h => by omega) ?_
      intro k n3 hk hn3 hJ3
      (repeat first|refine zG ?_|(refine LS.nilO ?_;intro nq hnq hltq;try refine zU ?_)|(refine MS.new ?_;intro bq hbq hbqf;try refine zU ?_)|(refine MS.nil ?_;intro nq hnq hltq;have hlq:=hltq _ _ (Hp.get_eq _ _ _);clear hltq;try refine zU ?_)|(refine LS.nilQ ?_;try with_reducible intro nq hnq;try refine zU ?_))
      refine zI ?_ ?_<;>intro h4
      · (repeat first|refine zG ?_|(refine LS.nilO ?_;intro nq hnq hltq;try refine zU ?_)|(refine MS.new ?_;intro bq hbq hbqf;try refine zU ?_)|(refine MS.nil ?_;intro nq hnq hltq;have hlq:=hltq _ _ (Hp.get_eq _ _ _);clear hltq;try refine zU ?_)|(refine LS.nilQ ?_;try with_reducible intro nq hnq;try refine zU ?_))
        refine CS.quietLo ?_
        (repeat first|refine zG ?_|(refine LS.nilO ?_;intro nq hnq hltq;try refine zU ?_)|(refine MS.new ?_;intro bq hbq hbqf;try refine zU ?_)|(refine MS.nil ?_;intro nq hnq hltq;have hlq:=hltq _ _ (Hp.get_eq _ _ _);clear hltq;try refine zU ?_)|(refine LS.nilQ ?_;try with_reducible intro nq hnq;try refine zU ?_))
        refine LS.callQ (.arr 8 (bys (bas k))) rfl (fun n' hn' => impl_basis k _ _ (by omega)) ?_
        (repeat first|refine zG ?_|(refine LS.nilO ?_;intro nq hnq hltq;try refine zU ?_)|(refine MS.new ?_;intro bq hbq hbqf;try refine zU ?_)|(refine MS.nil ?_;intro nq hnq hltq;have hlq:=hltq _ _ (Hp.get_eq _ _ _);clear hltq;try refine zU ?_)|(refine LS.nilQ ?_;try with_reducible intro nq hnq;try refine zU ?_))
        refine LS.callQ (.arr 8 (bys (pr p m (fun x => m (64 * i + 8 * j + x)) (bas k) a))) rfl (fun n' hn' => Algebra_product p a m (fun x => m (64 * i + 8 * j + x)) (bas k) b K _ _ hp ha (by exact zH) hsz h0 h1 hK hm (fun x hx => hm _ (by omega)) (bas_by _ _)) ?_
        (repeat first|refine zG ?_|(refine LS.nilO ?_;intro nq hnq hltq;try refine zU ?_)|(refine MS.new ?_;intro bq hbq hbqf;try refine zU ?_)|(refine MS.nil ?_;intro nq hnq hltq;have hlq:=hltq _ _ (Hp.get_eq _ _ _);clear hltq;try refine zU ?_)|(refine LS.nilQ ?_;try with_reducible intro nq hnq;try refine zU ?_))
        refine LS.callQ (.arr 8 (bys (bas i))) rfl (fun n' hn' => impl_basis i _ _ (by omega)) ?_
        (repeat first|refine zG ?_|(refine LS.nilO ?_;intro nq hnq hltq;try refine zU ?_)|(refine MS.new ?_;intro bq hbq hbqf;try refine zU ?_)|(refine MS.nil ?_;intro nq hnq hltq;have hlq:=hltq _ _ (Hp.get_eq _ _ _);clear hltq;try refine zU ?_)|(refine LS.nilQ ?_;try with_reducible intro nq hnq;try refine zU ?_))
        refine LS.callQ (.arr 8 (bys (pr p m (bas i) (fun x => m (64 * j + 8 * k + x)) a))) rfl (fun n' hn' => Algebra_product p a m (bas i) (fun x => m (64 * j + 8 * k + x)) b K _ _ hp ha (by exact zH) hsz h0 h1 hK hm (bas_by _ _) (fun x hx => hm _ (by omega))) ?_
        (repeat first|refine zG ?_|(refine LS.nilO ?_;intro nq hnq hltq;try refine zU ?_)|(refine MS.new ?_;intro bq hbq hbqf;try refine zU ?_)|(refine MS.nil ?_;intro nq hnq hltq;have hlq:=hltq _ _ (Hp.get_eq _ _ _);clear hltq;try refine zU ?_)|(refine LS.nilQ ?_;try with_reducible intro nq hnq;try refine zU ?_))
        refine zI ?_ ?_<;>intro h5
        · (repeat first|refine zG ?_|(refine LS.nilO ?_;intro nq hnq hltq;try refine zU ?_)|(refine MS.new ?_;intro bq hbq hbqf;try refine zU ?_)|(refine MS.nil ?_;intro nq hnq hltq;have hlq:=hltq _ _ (Hp.get_eq _ _ _);clear hltq;try refine zU ?_)|(refine LS.nilQ ?_;try with_reducible intro nq hnq;try refine zU ?_))
          exact ⟨_, H, rfl, by exact zD, .inr ⟨⟨_, _, _, _, rfl⟩, fun h => h5 (h i j k (by omega) (by omega) (by omega))⟩, rfl⟩
        · (repeat first|refine zG ?_|(refine LS.nilO ?_;intro nq hnq hltq;try refine zU ?_)|(refine MS.new ?_;intro bq hbq hbqf;try refine zU ?_)|(refine MS.nil ?_;intro nq hnq hltq;have hlq:=hltq _ _ (Hp.get_eq _ _ _);clear hltq;try refine zU ?_)|(refine LS.nilQ ?_;try with_reducible intro nq hnq;try refine zU ?_))
          refine ⟨by omega, by (repeat first | exact trivial | refine And.intro rfl ?_), Drops.refl _ _, fun k' hk' => ?_⟩
          by_cases e : k' = k
          · subst e; exact h5
          · exact hJ3 k' (by omega)
      · have : k = a := by omega
        subst this
        (repeat first|refine zG ?_|(refine LS.nilO ?_;intro nq hnq hltq;try refine zU ?_)|(refine MS.new ?_;intro bq hbq hbqf;try refine zU ?_)|(refine MS.nil ?_;intro nq hnq hltq;have hlq:=hltq _ _ (Hp.get_eq _ _ _);clear hltq;try refine zU ?_)|(refine LS.nilQ ?_;try with_reducible intro nq hnq;try refine zU ?_))
        refine ⟨by omega, by (repeat first | exact trivial | refine And.intro rfl ?_), Drops.refl _ _, fun j' k' hj' => ?_⟩
        by_cases e : j' = j
        · subst e; exact fun hk' => hJ3 k' hk'
        · exact hJ2 j' k' (by omega)
    · have : j = a := by omega
      subst this
      (repeat first|refine zG ?_|(refine LS.nilO ?_;intro nq hnq hltq;try refine zU ?_)|(refine MS.new ?_;intro bq hbq hbqf;try refine zU ?_)|(refine MS.nil ?_;intro nq hnq hltq;have hlq:=hltq _ _ (Hp.get_eq _ _ _);clear hltq;try refine zU ?_)|(refine LS.nilQ ?_;try with_reducible intro nq hnq;try refine zU ?_))
      refine ⟨by omega, by (repeat first | exact trivial | refine And.intro rfl ?_), Drops.refl _ _, fun i' j' k' hi' => ?_⟩
      by_cases e : i' = i
      · subst e; exact fun hj' hk' => hJ2 j' k' hj' hk'
      · exact hJ i' j' k' (by omega)
  · have : i = a := by omega
    subst this
    (repeat first|refine zG ?_|(refine LS.nilO ?_;intro nq hnq hltq;try refine zU ?_)|(refine MS.new ?_;intro bq hbq hbqf;try refine zU ?_)|(refine MS.nil ?_;intro nq hnq hltq;have hlq:=hltq _ _ (Hp.get_eq _ _ _);clear hltq;try refine zU ?_)|(refine LS.nilQ ?_;try with_reducible intro nq hnq;try refine zU ?_))
    exact ⟨_, H, rfl, by exact zD, .inl ⟨rfl, fun i' j' k' h1 h2 h3 => hJ i' j' k' h1 h2 h3⟩, rfl⟩
/-- spec.l02Shape -/
def ir138 : Cd := (.seq (.reg [⟨some 1,none,.box 123 (.t 0)⟩,⟨some 2,none,.mov (.c (.bool false))⟩]) (.seq (.reg [⟨some 3,none,.fa 0 (.t 1)⟩,⟨some 4,none,.ld none (.t 3)⟩,⟨some 5,none,.fa 1 (.t 1)⟩,⟨some 6,none,.ld none (.t 5)⟩,⟨some 7,none,.call 121 [(.t 4),(.t 6)]⟩,⟨some 8,none,.mov (.t 7)⟩,⟨some 9,(some (8,true)),.fa 0 (.t 1)⟩,⟨some 10,(some (8,true)),.ld none (.t 9)⟩,⟨some 11,(some (8,true)),.fa 1 (.t 1)⟩,⟨some 12,(some (8,true)),.ld none (.t 11)⟩,⟨some 13,(some (8,true)),.fa 2 (.t 1)⟩,⟨some 14,(some (8,true)),.ld (some 8) (.t 13)⟩,⟨some 15,(some (8,true)),.call 84 [(.t 10),(.t 12),(.t 14)]⟩,⟨some 16,none,.pick (.t 8) (.t 15) (.c (.bool false))⟩,⟨some 17,none,.mov (.t 16)⟩,⟨some 18,(some (17,true)),.fa 0 (.t 1)⟩,⟨some 19,(some (17,true)),.ld none (.t 18)⟩,⟨some 20,(some (17,true)),.fa 1 (.t 1)⟩,⟨some 21,(some (17,true)),.ld none (.t 20)⟩,⟨some 22,(some (17,true)),.fa 10 (.t 1)⟩,⟨some 23,(some (17,true)),.ld (some 512) (.t 22)⟩,⟨some 24,(some (17,true)),.call 102 [(.t 19),(.t 21),(.t 23)]⟩,⟨some 25,none,.pick (.t 17) (.t 24) (.c (.bool false))⟩,⟨some 2,none,.mov (.t 25)⟩]) .ret))
set_option maxRecDepth 100000 in
theorem tr138 : trFn Tryz.prog Tryz.f138 = some (26, ir138, [.tmp 2]) := by kernel_rfl
theorem spec_l02Shape (p n' : Int) (u m : Nat → Int) (K : Nat → SV) (H : Hp) (n : Nat) (h0 : K 0 = .int .i64 p) (h1 : K 1 = .int .i64 n')
    (hU : ∀ q, q < 8 → K (2 + q) = .int .u8 (u q)) (hK : ∀ q, q < 512 → K (10 + q) = .int .u8 (m q)) (hu : isBy 8 u) (hm : isBy 512 m) :
    FnS Tryz.prog 138 [.arr 522 K] H n (fun v H' _ => v = bl (tb (shp p n' u m)) ∧ H' = H) := by
  refine FnS.of_body Tryz.func138 tr138 (by simp) (fun hf => ?_)
  dsimp only [argEnv]
  unfold ir138
  (repeat first|refine zG ?_|(refine LS.nilO ?_;intro nq hnq hltq;try refine zU ?_)|(refine MS.new ?_;intro bq hbq hbqf;try refine zU ?_)|(refine MS.nil ?_;intro nq hnq hltq;have hlq:=hltq _ _ (Hp.get_eq _ _ _);clear hltq;try refine zU ?_)|(refine LS.nilQ ?_;try with_reducible intro nq hnq;try refine zU ?_))
  refine RS.call rfl ((spec_l01Sizes _ _ _ _).mono ?_)
  rintro r H n2 hn2 ⟨rfl, rfl⟩
  (repeat first|refine zG ?_|(refine LS.nilO ?_;intro nq hnq hltq;try refine zU ?_)|(refine MS.new ?_;intro bq hbq hbqf;try refine zU ?_)|(refine MS.nil ?_;intro nq hnq hltq;have hlq:=hltq _ _ (Hp.get_eq _ _ _);clear hltq;try refine zU ?_)|(refine LS.nilQ ?_;try with_reducible intro nq hnq;try refine zU ?_))
  refine RS.sp (t := 8) rfl (fun h2 => ?_) (fun h2 => ?_) <;> (try simp only [tb_eq, tb_eqF, decide_eq_true_eq, decide_eq_false_iff_not, beq_iff_eq, bne_iff_ne, ne_eq, Decidable.not_not, beq_eq_false_iff_ne, bne_eq_false_iff_eq, Bool.not_eq_true', Bool.not_eq_false', Bool.not_eq_eq_eq_not, Bool.not_true, Bool.not_false] at h2)
  · (repeat first|refine zG ?_|(refine LS.nilO ?_;intro nq hnq hltq;try refine zU ?_)|(refine MS.new ?_;intro bq hbq hbqf;try refine zU ?_)|(refine MS.nil ?_;intro nq hnq hltq;have hlq:=hltq _ _ (Hp.get_eq _ _ _);clear hltq;try refine zU ?_)|(refine LS.nilQ ?_;try with_reducible intro nq hnq;try refine zU ?_))
    refine RS.call rfl ((spec_l01Vector p n' u _ _ hu).mono ?_)
    rintro r H n3 hn3 ⟨rfl, rfl⟩
    (repeat first|refine zG ?_|(refine LS.nilO ?_;intro nq hnq hltq;try refine zU ?_)|(refine MS.new ?_;intro bq hbq hbqf;try refine zU ?_)|(refine MS.nil ?_;intro nq hnq hltq;have hlq:=hltq _ _ (Hp.get_eq _ _ _);clear hltq;try refine zU ?_)|(refine LS.nilQ ?_;try with_reducible intro nq hnq;try refine zU ?_))
    refine RS.sp (t := 17) rfl (fun h3 => ?_) (fun h3 => ?_) <;> (try simp only [tb_eq, tb_eqF, decide_eq_true_eq, decide_eq_false_iff_not, beq_iff_eq, bne_iff_ne, ne_eq, Decidable.not_not, beq_eq_false_iff_ne, bne_eq_false_iff_eq, Bool.not_eq_true', Bool.not_eq_false', Bool.not_eq_eq_eq_not, Bool.not_true, Bool.not_false] at h3)
    · (repeat first|refine zG ?_|(refine LS.nilO ?_;intro nq hnq hltq;try refine zU ?_)|(refine MS.new ?_;intro bq hbq hbqf;try refine zU ?_)|(refine MS.nil ?_;intro nq hnq hltq;have hlq:=hltq _ _ (Hp.get_eq _ _ _);clear hltq;try refine zU ?_)|(refine LS.nilQ ?_;try with_reducible intro nq hnq;try refine zU ?_))
      refine RS.call rfl ((spec_l01Table p n' m _ _ hm).mono ?_)
      rintro r H n4 hn4 ⟨rfl, rfl⟩
      (repeat first|refine zG ?_|(refine LS.nilO ?_;intro nq hnq hltq;try refine zU ?_)|(refine MS.new ?_;intro bq hbq hbqf;try refine zU ?_)|(refine MS.nil ?_;intro nq hnq hltq;have hlq:=hltq _ _ (Hp.get_eq _ _ _);clear hltq;try refine zU ?_)|(refine LS.nilQ ?_;try with_reducible intro nq hnq;try refine zU ?_))
      exact ⟨_, H, rfl, by exact zD, congrArg bl (tb_iff ⟨fun h => ⟨h2, h3, h⟩, fun h => h.2.2⟩), rfl⟩
    · (repeat first|refine zG ?_|(refine LS.nilO ?_;intro nq hnq hltq;try refine zU ?_)|(refine MS.new ?_;intro bq hbq hbqf;try refine zU ?_)|(refine MS.nil ?_;intro nq hnq hltq;have hlq:=hltq _ _ (Hp.get_eq _ _ _);clear hltq;try refine zU ?_)|(refine LS.nilQ ?_;try with_reducible intro nq hnq;try refine zU ?_))
      exact ⟨_, H, rfl, by exact zD, by rw [tb_false (fun h => h3 h.2.1)], rfl⟩
  · (repeat first|refine zG ?_|(refine LS.nilO ?_;intro nq hnq hltq;try refine zU ?_)|(refine MS.new ?_;intro bq hbq hbqf;try refine zU ?_)|(refine MS.nil ?_;intro nq hnq hltq;have hlq:=hltq _ _ (Hp.get_eq _ _ _);clear hltq;try refine zU ?_)|(refine LS.nilQ ?_;try with_reducible intro nq hnq;try refine zU ?_))
    exact ⟨_, H, rfl, by exact zD, by rw [tb_false (fun h => h2 h.1)], rfl⟩
/-- (*impl.Hopf).legProduct -/
def ir32 : Cd := (.seq (.reg [⟨some 4,none,.box 51 (.t 0)⟩,⟨some 5,none,.box 52 (.t 1)⟩,⟨some 8,none,.new 29 [(8,(.int .u8 0))]⟩]) (.seq (.reg [⟨some 11,none,.ld none (.t 4)⟩,⟨some 12,none,.call 50 [(.t 11)]⟩,⟨some 13,none,.build 8 [(8,(.int .u8 0))] []⟩,⟨some 9,none,.new 77 [(2,(.int .i64 0))]⟩,⟨some 10,none,.new 29 [(8,(.int .u8 0))]⟩,⟨none,none,.st 2 (.t 9) (.t 12)⟩,⟨none,none,.st 8 (.t 10) (.t 13)⟩]) (.seq (.reg [⟨some 14,none,.ld none (.t 4)⟩,⟨some 15,none,.mov (.t 2)⟩,⟨some 16,none,.mov (.t 3)⟩,⟨some 17,none,.mkf 64 [] [(.t 9),(.t 10),(.t 5),(.t 4)]⟩,⟨some 18,none,.call 63 [(.t 14),(.t 15),(.t 16),(.t 17)]⟩]) (.seq (.reg [⟨some 19,none,.ld (some 8) (.t 10)⟩,⟨none,none,.st 8 (.t 8) (.t 19)⟩]) .ret))))
set_option maxRecDepth 100000 in
theorem tr32 : trFn Tryz.prog Tryz.f32 = some (20, ir32, [.cell (some 8) 8]) := by kernel_rfl
theorem Hopf_legProduct (h : HT) (a : Nat) (S : Nat → Int) (i j : Nat) (hi : i < 8) (hj : j < 8) (b bs os : Nat) (K Ks : Blk) (H : Hp) (n : Nat) (hS : HS h a) (hb : H.get b = some K) (hsz : K.size = 1106) (hK : h.At K.c) (hB : h.By) (hSb : isBy 64 S)
    (gs : H.get bs = some Ks) (ss : os + 64 ≤ Ks.size) (cs : ∀ q, q < 64 → Ks.c (os + q) = .int .u8 (S q)) :
    FnS Tryz.prog 32 [ptr b 0, ptr bs os, i64 i, i64 j] H n (fun r H' _ => r = .arr 8 (bys (leg h.p h.m h.c S i j)) ∧ H' = H) := by
  have hp := hS.hp
  have hk1 := hK.n
  rw [hS.hn] at hk1
  have ha := hS.ha
  refine FnS.of_body Tryz.func32 tr32 (by simp) (fun hf => ?_)
  dsimp only [argEnv]
  unfold ir32
  have e0 := getlt hf hb
  have e1 := getlt hf gs
  (repeat first|refine zG ?_|(refine LS.nilO ?_;intro nq hnq hltq;try refine zU ?_)|(refine MS.new ?_;intro bq hbq hbqf;try refine zU ?_)|(refine MS.nil ?_;intro nq hnq hltq;have hlq:=hltq _ _ (Hp.get_eq _ _ _);clear hltq;try refine zU ?_)|(refine LS.nilQ ?_;try with_reducible intro nq hnq;try refine zU ?_))
  refine RS.call rfl ((Hopf_field h.p a b K _ _ (by exact zH) hsz hK.p hk1 (by omega)).mono ?_)
  rintro r H' n2 hn2 ⟨rfl, rfl⟩
  (repeat first|refine zG ?_|(refine LS.nilO ?_;intro nq hnq hltq;try refine zU ?_)|(refine MS.new ?_;intro bq hbq hbqf;try refine zU ?_)|(refine MS.nil ?_;intro nq hnq hltq;have hlq:=hltq _ _ (Hp.get_eq _ _ _);clear hltq;try refine zU ?_)|(refine LS.nilQ ?_;try with_reducible intro nq hnq;try refine zU ?_))
  refine LS.hpd (H1 := (n2 + 1, ⟨8, bys (lg h.p h.m h.c S i j 0 0), 29⟩) :: (n2, ⟨2, fldC h.p a, 77⟩) :: (n + 2, ⟨8, fun _ => .int .u8 0, 29⟩) :: (n + 1, ⟨1, fun _ => .ptr bs os, 52⟩) :: (n, ⟨1, fun _ => .ptr b 0, 51⟩) :: H)
    (Drops.keepc rfl rfl (fun q hq => by rw [lg_zero]; rfl) (Drops.keepc rfl rfl (fun _ _ => rfl) (Drops.keepc rfl rfl (fun _ _ => rfl) (Drops.refl _ _)))) ?_
  refine RS.call rfl ((Hopf_split h i j hi hj _ _ (n2 + 1) 8 29 (fun t s => bys (lg h.p h.m h.c S i j t s)) b K _ _ hp (by exact zH) hsz hK hB (by exact zH) (by omega)
    (fun t ht => by rw [lg_next]) (fun t ht hz => by rw [lg_moreT (t := t) (t' := t + 1) (by omega) (fun u h1 h2 => by (obtain rfl : u = t := by omega); exact hz)])
    (fun t s ht hs hz => by rw [lg_moreS (s := s) (s' := s + 1) (by omega) (fun u h1 h2 => by (obtain rfl : u = s := by omega); exact hz)])
    (fun t s a' b' c' d' H2 n' ht hs ht' hb' hs' hd' hO hg hn' => ?_)).mono ?_)
  · have hx := modB (h.c (64 * i + t) * h.c (64 * j + s)) hp.1
    refine (Hopf_legProduct_1 h a (h.c (64 * i + t) * h.c (64 * j + s) % h.p) S (lg h.p h.m h.c S i j t s) a' b' c' d' (by omega) hb' (by omega) hd' b n2 (n2 + 1) (n + 1) n bs os K _ _ Ks H2 n' hS (hO _ _ (by omega) (by exact zH)) hsz hK hB (by omega) hSb (lg_res hp.1 _ _ _ _ _ _ _ _)
      (hO _ _ (by omega) (by exact zH)) hg (hO _ _ (by omega) (by exact zH)) rfl rfl (hO _ _ (by omega) (by exact zH)) rfl rfl (hO _ _ (by omega) (by exact zH)) ss cs).mono ?_
    rintro r H3 n5 hn5 rfl
    rw [ht', hs', lg_step _ _ _ _ _ _ _ _ _ _ hb' hd']
  rintro r H' n5 hn5 rfl
  simp (disch := omega) only [Hp.set_eq, Hp.set_ne]
  (repeat first|refine zG ?_|(refine LS.nilO ?_;intro nq hnq hltq;try refine zU ?_)|(refine MS.new ?_;intro bq hbq hbqf;try refine zU ?_)|(refine MS.nil ?_;intro nq hnq hltq;have hlq:=hltq _ _ (Hp.get_eq _ _ _);clear hltq;try refine zU ?_)|(refine LS.nilQ ?_;try with_reducible intro nq hnq;try refine zU ?_))
  exact ⟨.arr 8 (bys (leg h.p h.m h.c S i j)), _, conc_arr (fun q hq => by simp only [leg, Nat.zero_add]), by exact zD, rfl, rfl⟩
/-- (*impl.Hopf).timesFirst -/
def ir54 : Cd := (.seq (.reg [⟨some 3,none,.box 51 (.t 0)⟩,⟨some 5,none,.box 82 (.t 2)⟩,⟨some 6,none,.new 33 [(512,(.int .u8 0))]⟩]) (.seq (.reg [⟨some 9,none,.ld none (.t 3)⟩,⟨some 10,none,.call 50 [(.t 9)]⟩,⟨some 11,none,.build 512 [(512,(.int .u8 0))] []⟩,⟨some 7,none,.new 77 [(2,(.int .i64 0))]⟩,⟨some 8,none,.new 33 [(512,(.int .u8 0))]⟩,⟨none,none,.st 2 (.t 7) (.t 10)⟩,⟨none,none,.st 512 (.t 8) (.t 11)⟩]) (.seq (.reg [⟨some 12,none,.mov (.t 1)⟩,⟨some 13,none,.mkf 88 [] [(.t 7),(.t 3),(.t 8),(.t 5)]⟩,⟨some 14,none,.call 78 [(.t 12),(.t 13)]⟩]) (.seq (.reg [⟨some 15,none,.ld (some 512) (.t 8)⟩,⟨none,none,.st 512 (.t 6) (.t 15)⟩]) .ret))))
set_option maxRecDepth 100000 in
theorem tr54 : trFn Tryz.prog Tryz.f54 = some (16, ir54, [.cell (some 512) 6]) := by kernel_rfl
theorem Hopf_timesFirst (h : HT) (a : Nat) (S T : Nat → Int) (b bs os bT oT : Nat) (K Ks KT : Blk) (H : Hp) (n : Nat) (hS : HS h a) (hb : H.get b = some K) (hsz : K.size = 1106) (hK : h.At K.c) (hB : h.By) (hs : isBy 64 S) (hT : isBy 512 T)
    (hbs : H.get bs = some Ks) (ho : os + 64 ≤ Ks.size) (hc : ∀ i, i < 64 → Ks.c (os + i) = .int .u8 (S i))
    (gT : H.get bT = some KT) (sT : oT + 512 ≤ KT.size) (cT : ∀ q, q < 512 → KT.c (oT + q) = .int .u8 (T q)) :
    FnS Tryz.prog 54 [ptr b 0, ptr bs os, ptr bT oT] H n (fun r H' _ => r = .arr 512 (bys (tmf h.p h.m S T)) ∧ H' = H) := by
  have hp := hS.hp
  have ha := hS.ha
  have hk1 := hK.n
  rw [hS.hn] at hk1
  refine FnS.of_body Tryz.func54 tr54 (by simp) (fun hf => ?_)
  dsimp only [argEnv]
  unfold ir54
  have hbn := getlt hf hb
  have hbn2 := getlt hf hbs
  have hbn3 := getlt hf gT
  (repeat first|refine zG ?_|(refine LS.nilO ?_;intro nq hnq hltq;try refine zU ?_)|(refine MS.new ?_;intro bq hbq hbqf;try refine zU ?_)|(refine MS.nil ?_;intro nq hnq hltq;have hlq:=hltq _ _ (Hp.get_eq _ _ _);clear hltq;try refine zU ?_)|(refine LS.nilQ ?_;try with_reducible intro nq hnq;try refine zU ?_))
  refine RS.call rfl ((Hopf_field h.p a b K _ _ (by exact zH) hsz hK.p hk1 (by omega)).mono ?_)
  rintro r H n2 hn2 ⟨rfl, rfl⟩
  (repeat first|refine zG ?_|(refine LS.nilO ?_;intro nq hnq hltq;try refine zU ?_)|(refine MS.new ?_;intro bq hbq hbqf;try refine zU ?_)|(refine MS.nil ?_;intro nq hnq hltq;have hlq:=hltq _ _ (Hp.get_eq _ _ _);clear hltq;try refine zU ?_)|(refine LS.nilQ ?_;try with_reducible intro nq hnq;try refine zU ?_))
  refine RS.call rfl ((impl_pairs S bs os _ _ (fun t => (n2 + 1, ⟨512, bys (tfs h.p h.m S T a t 0 0), 33⟩) :: (n2, ⟨2, fldC h.p a, 77⟩) :: (n + 2, ⟨512, fun _ => .int .u8 0, 33⟩) :: (n + 1, ⟨1, fun _ => .ptr bT oT, 82⟩) :: (n, ⟨1, fun _ => .ptr b 0, 51⟩) :: H) _ _ (by (try dsimp only); rw [tfs_zero]; rfl)
    (fun s hs => ⟨Ks, by exact zH, ho, hc⟩) hs (fun t ht hz => by (try dsimp only); rw [tfs_skip hz]) (fun t j k n' ht ht' hk hz hn' => ?_)).mono ?_)
  · refine (Hopf_timesFirst_1 h a S T t j k ht' (by omega) hk b bT oT (n + 1) n n2 (n2 + 1) K KT _ _ _ n' hS (by exact zH) hsz hK hB hs hT (by exact zH) sT cT (by exact zH) rfl rfl (by exact zH) rfl rfl (by exact zH) (by exact zH) (by omega) (by omega) (by omega) (by omega) (by omega)).mono ?_
    rintro r H' n3 hn3 rfl
    simp (disch := omega) only [Hp.set_eq, Hp.set_ne, Hp.set_set]
  rintro r H' n3 hn3 rfl
  (repeat first|refine zG ?_|(refine LS.nilO ?_;intro nq hnq hltq;try refine zU ?_)|(refine MS.new ?_;intro bq hbq hbqf;try refine zU ?_)|(refine MS.nil ?_;intro nq hnq hltq;have hlq:=hltq _ _ (Hp.get_eq _ _ _);clear hltq;try refine zU ?_)|(refine LS.nilQ ?_;try with_reducible intro nq hnq;try refine zU ?_))
  exact ⟨.arr 512 (bys (tmf h.p h.m S T)), _, conc_arr (fun q hq => by simp only [Nat.zero_add, bys]; rw [tfs_end hS.mm ha hq]), by exact zD, rfl, rfl⟩
end Go.Proofs.YtbknndbfbebkdaaGreatR
