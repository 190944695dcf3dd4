/- Contracts of the program's functions. -/
import Derived.Test.YtgnphaopeplfbaaGreatDoorJam
import Derived.Test.YtgnphaopeplfbaaGreatDoorJao
import Derived.Test.YtgnphaopeplfbaaGreatDoorJan
set_option linter.unusedSectionVars false
set_option linter.unusedVariables false
set_option linter.unusedSimpArgs false

namespace Go.Proofs.YtgnphaopeplfbaaGreatDoor

open Go.V

variable [BW]

set_option linter.unusedSimpArgs false

set_option linter.unusedVariables false

set_option maxHeartbeats 4000000

/-- spec.l01Apply -/
def ir61 : Cd := (.seq (.reg [⟨some 6,none,.box 27 (.t 2)⟩,⟨some 7,none,.box 25 (.t 3)⟩,⟨some 8,none,.new 25 [(8,(.int .u8 0))]⟩]) (.seq (.reg [⟨some 11,none,.build 8 [(8,(.int .u8 0))] []⟩,⟨some 9,none,.new 25 [(8,(.int .u8 0))]⟩,⟨none,none,.st 8 (.t 9) (.t 11)⟩]) (.seq (.seq (.reg [⟨some 10,none,.mov (.c (.int .i64 0))⟩]) (.block 0 (.loop (.seq (.seq (.reg [⟨some 12,none,.mov (.t 10)⟩,⟨some 13,none,.mov (.t 1)⟩,⟨some 14,none,.bin .lss (.t 12) (.t 13)⟩]) (.cond (.t 14) .skip (.exit 0))) (.seq (.block 1 (.seq (.reg [⟨some 17,none,.mov (.t 10)⟩,⟨some 18,none,.ia 8 1 (.t 7) (.t 17)⟩,⟨some 19,none,.ld none (.t 18)⟩,⟨some 20,none,.bin .neq (.t 19) (.c (.int .u8 0))⟩]) (.cond (.t 20) (.drw true [9,10] [⟨some 21,none,.mov (.t 0)⟩,⟨some 22,none,.ld (some 8) (.t 9)⟩,⟨some 23,none,.mov (.t 10)⟩,⟨some 24,none,.ia 8 8 (.t 6) (.t 23)⟩,⟨some 25,none,.ld (some 8) (.t 24)⟩,⟨some 26,none,.mov (.t 10)⟩,⟨some 27,none,.ia 8 1 (.t 7) (.t 26)⟩,⟨some 28,none,.ld none (.t 27)⟩,⟨some 29,none,.cv .i64 (.t 28)⟩,⟨some 30,none,.call 60 [(.t 21),(.t 22),(.t 25),(.t 29)]⟩,⟨none,none,.st 8 (.t 9) (.t 30)⟩]) .skip))) (.reg [⟨some 15,none,.mov (.t 10)⟩,⟨some 16,none,.bin .add (.t 15) (.c (.int .i64 1))⟩,⟨some 10,none,.mov (.t 16)⟩])))))) (.seq (.reg [⟨some 31,none,.ld (some 8) (.t 9)⟩,⟨none,none,.st 8 (.t 8) (.t 31)⟩]) .ret))))

set_option maxRecDepth 100000 in
theorem tr61 : trFn Tryz.prog Tryz.f61 = some (32, ir61, [.cell (some 8) 8]) := by kernel_rfl

theorem spec_l01Apply (p : Int) (m : Nat) (l v : Nat → Int) (H : Hp) (n : Nat) (hp : 2 ≤ p ∧ p ≤ 31) (hm : m ≤ 8) (hl : isBy 64 l) (hv : isBy 8 v) :
    FnS Tryz.prog 61 [i64 p, i64 m, .arr 64 (bys l), .arr 8 (bys v)] H n (fun r H' _ => r = .arr 8 (bys (apk p l v m)) ∧ H' = H) := by
  refine FnS.of_body Tryz.func61 tr61 (by simp) (fun hf => ?_)
  dsimp only [argEnv]
  unfold ir61
  (refine zG ?_)
  refine CS.iter m (fun i => [(10, i64 i), (0, i64 p), (1, i64 m), (6, ptr n 0), (7, ptr (n + 1) 0), (8, ptr (n + 2) 0), (9, ptr (n + 3) 0)])
    (fun i => (n + 3, ⟨8, bys (apk p l v i), 25⟩) :: (n + 2, ⟨8, bys (fun _ => 0), 25⟩) :: (n + 1, ⟨8, bys v, 25⟩) :: (n, ⟨64, bys l, 27⟩) :: H) (fun _ => True) (by (repeat first | exact trivial | refine And.intro rfl ?_))
    (Drops.keepc rfl rfl (fun _ _ => by rw [apk_zero]; rfl) (Drops.keepc rfl rfl (fun _ _ => rfl) (Drops.refl _ _))) trivial ?_
  intro i n1 hi hn _
  (refine zG ?_)
  refine zI ?_ ?_<;>intro h1
  · have hvi := hv i (by omega)
    (refine zG ?_)
    refine zI ?_ ?_<;>intro h2
    · (repeat first|refine zG ?_|(refine LS.nilO ?_;intro nq hnq hltq;try refine zU ?_)|(refine MS.new ?_;intro bq hbq hbqf;try refine zU ?_)|(refine MS.nil ?_;intro nq hnq hltq;have hlq:=hltq _ _ (Hp.get_eq _ _ _);clear hltq;try refine zU ?_)|(refine LS.nilQ ?_;try with_reducible intro nq hnq;try refine zU ?_))
      refine RS.call rfl ((spec_l01Add p (v i) (apk p l v i) (fun x => l (8 * i + x)) _ _ hp (fun q hq => by have := apk_res hp.1 l v i 8 q hq; omega) (fun x hx => hl _ (by omega)) (by omega)).mono ?_)
      rintro r H' n2 hn2 ⟨rfl, rfl⟩
      (refine zG ?_)
      exact ⟨by omega, by (repeat first | exact trivial | refine And.intro rfl ?_), Drops.keepc rfl rfl (fun q hq => by rw [apk_step]) (Drops.refl _ _), trivial⟩
    · (refine zG ?_)
      exact ⟨by omega, by (repeat first | exact trivial | refine And.intro rfl ?_), by rw [apk_same h2]; exact Drops.refl _ _, trivial⟩
  · have : i = m := by omega
    subst this
    (refine zG ?_)
    exact ⟨.arr 8 (bys (apk p l v i)), H, conc_arr (fun q hq => by simp only [Nat.zero_add]), by exact zD, rfl, rfl⟩

/-- spec.l01Times -/
def ir28 : Cd := (.seq (.reg [⟨some 3,none,.box 31 (.t 0)⟩,⟨some 4,none,.box 25 (.t 1)⟩,⟨some 5,none,.box 25 (.t 2)⟩,⟨some 6,none,.new 25 [(8,(.int .u8 0))]⟩]) (.seq (.reg [⟨some 9,none,.build 8 [(8,(.int .u8 0))] []⟩,⟨some 7,none,.new 25 [(8,(.int .u8 0))]⟩,⟨none,none,.st 8 (.t 7) (.t 9)⟩]) (.seq (.seq (.reg [⟨some 8,none,.mov (.c (.int .i64 0))⟩]) (.block 0 (.loop (.seq (.seq (.reg [⟨some 10,none,.mov (.t 8)⟩,⟨some 11,none,.fa 1 (.t 3)⟩,⟨some 12,none,.ld none (.t 11)⟩,⟨some 13,none,.bin .lss (.t 10) (.t 12)⟩]) (.cond (.t 13) .skip (.exit 0))) (.seq (.block 1 (.seq (.reg [⟨some 16,none,.mov (.t 8)⟩,⟨some 17,none,.ia 8 1 (.t 4) (.t 16)⟩,⟨some 18,none,.ld none (.t 17)⟩,⟨some 19,none,.bin .neq (.t 18) (.c (.int .u8 0))⟩]) (.cond (.t 19) (.drwo true [17,18] [0,1,2,3,4,5,6,7,8,9,10,11,13,14,15,16,12,17,18] [⟨some 20,none,.fa 0 (.t 3)⟩,⟨some 21,none,.ld none (.t 20)⟩,⟨some 22,none,.ld (some 8) (.t 7)⟩,⟨some 23,none,.fa 0 (.t 3)⟩,⟨some 24,none,.ld none (.t 23)⟩,⟨some 25,none,.fa 1 (.t 3)⟩,⟨some 26,none,.ld none (.t 25)⟩,⟨some 27,none,.mov (.t 8)⟩,⟨some 28,none,.fa 10 (.t 3)⟩,⟨some 29,none,.ia 8 64 (.t 28) (.t 27)⟩,⟨some 30,none,.ld (some 64) (.t 29)⟩,⟨some 31,none,.ld (some 8) (.t 5)⟩,⟨some 32,none,.call 61 [(.t 24),(.t 26),(.t 30),(.t 31)]⟩,⟨some 33,none,.mov (.t 8)⟩,⟨some 34,none,.ia 8 1 (.t 4) (.t 33)⟩,⟨some 35,none,.ld none (.t 34)⟩,⟨some 36,none,.cv .i64 (.t 35)⟩,⟨some 37,none,.call 60 [(.t 21),(.t 22),(.t 32),(.t 36)]⟩,⟨none,none,.st 8 (.t 7) (.t 37)⟩]) .skip))) (.reg [⟨some 14,none,.mov (.t 8)⟩,⟨some 15,none,.bin .add (.t 14) (.c (.int .i64 1))⟩,⟨some 8,none,.mov (.t 15)⟩])))))) (.seq (.reg [⟨some 38,none,.ld (some 8) (.t 7)⟩,⟨none,none,.st 8 (.t 6) (.t 38)⟩]) .ret))))

set_option maxRecDepth 100000 in
theorem tr28 : trFn Tryz.prog Tryz.f28 = some (39, ir28, [.cell (some 8) 6]) := by kernel_rfl

theorem spec_l01Times (p : Int) (a : Nat) (m v w : Nat → Int) (K : Nat → SV) (H : Hp) (n : Nat) (hp : 2 ≤ p ∧ p ≤ 31) (ha : a ≤ 8) (h0 : K 0 = .int .i64 p) (h1 : K 1 = .int .i64 a)
    (hK : ∀ q, q < 512 → K (10 + q) = .int .u8 (m q)) (hm : isBy 512 m) (hv : isBy 8 v) (hw : isBy 8 w) :
    FnS Tryz.prog 28 [.arr 522 K, .arr 8 (bys v), .arr 8 (bys w)] H n (fun r H' _ => r = .arr 8 (bys (pr p m v w a)) ∧ H' = H) := by
  refine FnS.of_body Tryz.func28 tr28 (by simp) (fun hf => ?_)
  dsimp only [argEnv]
  unfold ir28
  (refine zG ?_)
  refine CS.iter a (fun i => [(8, i64 i), (3, ptr n 0), (4, ptr (n + 1) 0), (5, ptr (n + 2) 0), (6, ptr (n + 3) 0), (7, ptr (n + 4) 0)])
    (fun i => (n + 4, ⟨8, bys (pk p m v w a i 0), 25⟩) :: (n + 3, ⟨8, bys (fun _ => 0), 25⟩) :: (n + 2, ⟨8, bys w, 25⟩) :: (n + 1, ⟨8, bys v, 25⟩) :: (n, ⟨522, K, 31⟩) :: H) (fun _ => True) (by (repeat first | exact trivial | refine And.intro rfl ?_))
    (Drops.keepc rfl rfl (fun _ _ => by rw [pk_zero]; rfl) (Drops.keepc rfl rfl (fun _ _ => rfl) (Drops.refl _ _))) trivial ?_
  intro i n1 hi hn _
  (refine zG ?_)
  refine zI ?_ ?_<;>intro h2
  · have hvi := hv i (by omega)
    (refine zG ?_)
    refine zI ?_ ?_<;>intro h3
    · (repeat first|refine zG ?_|(refine LS.nilO ?_;intro nq hnq hltq;try refine zU ?_)|(refine MS.new ?_;intro bq hbq hbqf;try refine zU ?_)|(refine MS.nil ?_;intro nq hnq hltq;have hlq:=hltq _ _ (Hp.get_eq _ _ _);clear hltq;try refine zU ?_)|(refine LS.nilQ ?_;try with_reducible intro nq hnq;try refine zU ?_))
      refine CS.tailLo _ (List.Mem.head _) ?_; dsimp only [List.take, List.drop]
      (refine zG ?_)
      refine LS.callQ (.arr 8 (bys (apk p (fun q => m (64 * i + q)) w a))) rfl (fun n' hn' => spec_l01Apply p a (fun q => m (64 * i + q)) w _ _ hp ha (fun q hq => hm _ (by omega)) hw) ?_
      (repeat first|refine zG ?_|(refine LS.nilO ?_;intro nq hnq hltq;try refine zU ?_)|(refine MS.new ?_;intro bq hbq hbqf;try refine zU ?_)|(refine MS.nil ?_;intro nq hnq hltq;have hlq:=hltq _ _ (Hp.get_eq _ _ _);clear hltq;try refine zU ?_)|(refine LS.nilQ ?_;try with_reducible intro nq hnq;try refine zU ?_))
      refine RS.call rfl ((spec_l01Add p (v i) (pk p m v w a i 0) (apk p (fun q => m (64 * i + q)) w a) _ _ hp (fun q hq => by have := pk_res hp.1 m v w a i 0 8 q hq; omega) (fun q hq => by have := apk_res hp.1 (fun q => m (64 * i + q)) w a 8 q hq; omega) (by omega)).mono ?_)
      rintro r H' n2 hn2 ⟨rfl, rfl⟩
      (refine zG ?_)
      exact ⟨by omega, by (repeat first | exact trivial | refine And.intro rfl ?_), Drops.keepc rfl rfl (fun q hq => by rw [pk_whole]) (Drops.refl _ _), trivial⟩
    · (refine zG ?_)
      exact ⟨by omega, by (repeat first | exact trivial | refine And.intro rfl ?_), by rw [pk_skip h3]; exact Drops.refl _ _, trivial⟩
  · have : i = a := by omega
    subst this
    (refine zG ?_)
    exact ⟨.arr 8 (bys (pr p m v w i)), H, conc_arr (fun q hq => by simp only [Nat.zero_add]; rfl), by exact zD, rfl, rfl⟩

/-- spec.l01Fault -/
def ir87 : Cd := (.seq (.reg [⟨some 1,none,.box 31 (.t 0)⟩,⟨some 2,none,.mov (.c .nils)⟩,⟨some 3,none,.mov (.c (.bool false))⟩]) (.seq (.seq (.reg [⟨some 4,none,.mov (.c (.int .i64 0))⟩]) (.block 0 (.loop (.seq (.seq (.reg [⟨some 7,none,.mov (.t 4)⟩,⟨some 8,none,.fa 1 (.t 1)⟩,⟨some 9,none,.ld none (.t 8)⟩,⟨some 10,none,.bin .lss (.t 7) (.t 9)⟩]) (.cond (.t 10) .skip (.exit 0))) (.seq (.block 1 (.seq (.reg [⟨some 5,none,.mov (.c (.int .i64 0))⟩]) (.block 2 (.loop (.seq (.seq (.reg [⟨some 13,none,.mov (.t 5)⟩,⟨some 14,none,.fa 1 (.t 1)⟩,⟨some 15,none,.ld none (.t 14)⟩,⟨some 16,none,.bin .lss (.t 13) (.t 15)⟩]) (.cond (.t 16) .skip (.exit 2))) (.seq (.block 3 (.seq (.reg [⟨some 6,none,.mov (.c (.int .i64 0))⟩]) (.block 4 (.loop (.seq (.seq (.reg [⟨some 19,none,.mov (.t 6)⟩,⟨some 20,none,.fa 1 (.t 1)⟩,⟨some 21,none,.ld none (.t 20)⟩,⟨some 22,none,.bin .lss (.t 19) (.t 21)⟩]) (.cond (.t 22) .skip (.exit 4))) (.seq (.block 5 (.seq (.drwo true [19] [0,1,2,3,4,5,6,7,10,11,13,14,15,16,17,18,8,9,12,19,20] [⟨some 25,none,.ld (some 522) (.t 1)⟩,⟨some 26,none,.mov (.t 4)⟩,⟨some 27,none,.mov (.t 5)⟩,⟨some 28,none,.fa 10 (.t 1)⟩,⟨some 29,none,.ia 8 64 (.t 28) (.t 26)⟩,⟨some 30,none,.ia 8 8 (.t 29) (.t 27)⟩,⟨some 31,none,.ld (some 8) (.t 30)⟩,⟨some 32,none,.mov (.t 6)⟩,⟨some 33,none,.call 74 [(.t 32)]⟩,⟨some 34,none,.call 28 [(.t 25),(.t 31),(.t 33)]⟩,⟨some 35,none,.ld (some 522) (.t 1)⟩,⟨some 36,none,.mov (.t 4)⟩,⟨some 37,none,.call 74 [(.t 36)]⟩,⟨some 38,none,.mov (.t 5)⟩,⟨some 39,none,.mov (.t 6)⟩,⟨some 40,none,.fa 10 (.t 1)⟩,⟨some 41,none,.ia 8 64 (.t 40) (.t 38)⟩,⟨some 42,none,.ia 8 8 (.t 41) (.t 39)⟩,⟨some 43,none,.ld (some 8) (.t 42)⟩,⟨some 44,none,.call 28 [(.t 35),(.t 37),(.t 43)]⟩,⟨some 45,none,.eqa true 8 (.t 34) (.t 44)⟩]) (.cond (.t 45) (.seq (.reg [⟨some 46,none,.mov (.t 4)⟩,⟨some 47,none,.mov (.t 5)⟩,⟨some 48,none,.mov (.t 6)⟩,⟨some 49,none,.bsl 2 3 1 [(1,(.int .i64 0))] [(0,1,(.t 46)),(1,1,(.t 47)),(2,1,(.t 48))]⟩,⟨some 2,none,.mov (.t 49)⟩,⟨some 3,none,.mov (.c (.bool true))⟩]) .ret) .skip))) (.reg [⟨some 23,none,.mov (.t 6)⟩,⟨some 24,none,.bin .add (.t 23) (.c (.int .i64 1))⟩,⟨some 6,none,.mov (.t 24)⟩]))))))) (.reg [⟨some 17,none,.mov (.t 5)⟩,⟨some 18,none,.bin .add (.t 17) (.c (.int .i64 1))⟩,⟨some 5,none,.mov (.t 18)⟩]))))))) (.reg [⟨some 11,none,.mov (.t 4)⟩,⟨some 12,none,.bin .add (.t 11) (.c (.int .i64 1))⟩,⟨some 4,none,.mov (.t 12)⟩])))))) (.seq (.reg [⟨some 2,none,.mov (.c .nils)⟩,⟨some 3,none,.mov (.c (.bool false))⟩]) .ret)))

set_option maxRecDepth 100000 in
theorem tr87 : trFn Tryz.prog Tryz.f87 = some (50, ir87, [.tmp 2, .tmp 3]) := by kernel_rfl

theorem spec_l01Fault (p : Int) (a : Nat) (m : Nat → Int) (K : Nat → SV) (H : Hp) (n : Nat) (hp : 2 ≤ p ∧ p ≤ 31) (ha : a ≤ 8)
    (h0 : K 0 = .int .i64 p) (h1 : K 1 = .int .i64 a) (hK : ∀ q, q < 512 → K (10 + q) = .int .u8 (m q)) (hm : isBy 512 m) :
    FnS Tryz.prog 87 [.arr 522 K] H n (fun r H' _ => (∃ s, r = .tup [.s s, bl (!tb (assoc p a m))]) ∧ H' = H) := by
  refine FnS.of_body Tryz.func87 tr87 (by simp) (fun hf => ?_)
  dsimp only [argEnv]
  unfold ir87
  (refine zG ?_)
  refine CS.iter a (fun i => [(4, i64 i), (1, ptr n 0)]) (fun _ => (n, ⟨522, K, 31⟩) :: H)
    (fun i => ∀ i' j k : Nat, i' < i → j < a → k < a → ∀ q, q < 8 → pr p m (fun x => m (64 * i' + 8 * j + x)) (bas k) a q = pr p m (bas i') (fun x => m (64 * j + 8 * k + x)) a q) (by (repeat first | exact trivial | refine And.intro rfl ?_)) (Drops.refl _ _) (fun _ _ _ h => by omega) ?_
  intro i n1 hi hn hJ
  (refine zG ?_)
  refine zI ?_ ?_<;>intro h2
  · (refine zG ?_)
    refine CS.iter a (fun j => [(5, i64 j), (4, i64 i), (1, ptr n 0)]) (fun _ => (n, ⟨522, K, 31⟩) :: H)
      (fun j => ∀ j' k : Nat, j' < j → k < a → ∀ q, q < 8 → pr p m (fun x => m (64 * i + 8 * j' + x)) (bas k) a q = pr p m (bas i) (fun x => m (64 * j' + 8 * k + x)) a q) (by (repeat first | exact trivial | refine And.intro rfl ?_)) (Drops.refl _ _) (fun _ _ h => by omega) ?_
    intro j n2 hj hn2 hJ2
    (refine zG ?_)
    refine zI ?_ ?_<;>intro h3
    · (refine zG ?_)
      refine CS.iter a (fun k => [(6, i64 k), (5, i64 j), (4, i64 i), (1, ptr n 0)]) (fun _ => (n, ⟨522, K, 31⟩) :: H)
        (fun k => ∀ k' : Nat, k' < k → ∀ q, q < 8 → pr p m (fun x => m (64 * i + 8 * j + x)) (bas k') a q = pr p m (bas i) (fun x => m (64 * j + 8 * k' + x)) a q) (by (repeat first | exact trivial | refine And.intro rfl ?_)) (Drops.refl _ _) (fun _ h => by omega) ?_
      intro k n3 hk hn3 hJ3
      (refine zG ?_)
      refine zI ?_ ?_<;>intro h4
      · (refine zG ?_)
        refine CS.quietLo ?_
        (refine zG ?_)
        refine LS.callQ (.arr 8 (bys (bas k))) rfl (fun n' hn' => spec_l01Basis k _ _ (by omega)) ?_
        (repeat first|refine zG ?_|(refine LS.nilO ?_;intro nq hnq hltq;try refine zU ?_)|(refine MS.new ?_;intro bq hbq hbqf;try refine zU ?_)|(refine MS.nil ?_;intro nq hnq hltq;have hlq:=hltq _ _ (Hp.get_eq _ _ _);clear hltq;try refine zU ?_)|(refine LS.nilQ ?_;try with_reducible intro nq hnq;try refine zU ?_))
        refine LS.callQ (.arr 8 (bys (pr p m (fun x => m (64 * i + 8 * j + x)) (bas k) a))) rfl (fun n' hn' => spec_l01Times p a m (fun x => m (64 * i + 8 * j + x)) (bas k) _ _ _ hp ha h0 h1 hK hm (fun x hx => hm _ (by omega)) (bas_by _ _)) ?_
        (refine zG ?_)
        refine LS.callQ (.arr 8 (bys (bas i))) rfl (fun n' hn' => spec_l01Basis i _ _ (by omega)) ?_
        (refine zG ?_)
        refine LS.callQ (.arr 8 (bys (pr p m (bas i) (fun x => m (64 * j + 8 * k + x)) a))) rfl (fun n' hn' => spec_l01Times p a m (bas i) (fun x => m (64 * j + 8 * k + x)) _ _ _ hp ha h0 h1 hK hm (bas_by _ _) (fun x hx => hm _ (by omega))) ?_
        (repeat first|refine zG ?_|(refine LS.nilO ?_;intro nq hnq hltq;try refine zU ?_)|(refine MS.new ?_;intro bq hbq hbqf;try refine zU ?_)|(refine MS.nil ?_;intro nq hnq hltq;have hlq:=hltq _ _ (Hp.get_eq _ _ _);clear hltq;try refine zU ?_)|(refine LS.nilQ ?_;try with_reducible intro nq hnq;try refine zU ?_))
        refine zI ?_ ?_<;>intro h5
        · (refine zG ?_)
          exact ⟨_, H, rfl, by exact zD, ⟨_, by rw [tb_false (fun h : assoc p a m => h5 (h i j k (by omega) (by omega) (by omega)))]; rfl⟩, rfl⟩
        · (refine zG ?_)
          refine ⟨by omega, by (repeat first | exact trivial | refine And.intro rfl ?_), Drops.refl _ _, fun k' hk' => ?_⟩
          by_cases e : k' = k
          · subst e; exact h5
          · exact hJ3 k' (by omega)
      · have : k = a := by omega
        subst this
        (refine zG ?_)
        refine ⟨by omega, by (repeat first | exact trivial | refine And.intro rfl ?_), Drops.refl _ _, fun j' k' hj' => ?_⟩
        by_cases e : j' = j
        · subst e; exact fun hk' => hJ3 k' hk'
        · exact hJ2 j' k' (by omega)
    · have : j = a := by omega
      subst this
      (refine zG ?_)
      refine ⟨by omega, by (repeat first | exact trivial | refine And.intro rfl ?_), Drops.refl _ _, fun i' j' k' hi' => ?_⟩
      by_cases e : i' = i
      · subst e; exact fun hj' hk' => hJ2 j' k' hj' hk'
      · exact hJ i' j' k' (by omega)
  · have : i = a := by omega
    subst this
    (refine zG ?_)
    exact ⟨_, H, rfl, by exact zD, ⟨_, by rw [tb_true (show assoc p i m from fun i' j' k' h1 h2 h3 => hJ i' j' k' h1 h2 h3)]; rfl⟩, rfl⟩

end Go.Proofs.YtgnphaopeplfbaaGreatDoor

/- Contracts of the program's functions. -/

namespace Go.Proofs.YtgnphaopeplfbaaGreatDoor

open Go.V

variable [BW]

set_option linter.unusedSimpArgs false

set_option linter.unusedVariables false

set_option maxHeartbeats 4000000

/-- spec.l01Inverse -/
def ir106 : Cd := (.seq (.reg [⟨some 4,none,.mov (.c (.int .u8 0))⟩]) (.seq (.seq (.reg [⟨some 5,none,.mov (.c (.int .i64 1))⟩]) (.block 0 (.loop (.seq (.seq (.reg [⟨some 6,none,.mov (.t 5)⟩,⟨some 7,none,.mov (.t 0)⟩,⟨some 8,none,.bin .lss (.t 6) (.t 7)⟩]) (.cond (.t 8) .skip (.exit 0))) (.seq (.block 1 (.seq (.reg [⟨some 11,none,.mov (.t 5)⟩,⟨some 12,none,.mov (.t 1)⟩,⟨some 13,none,.cv .i64 (.t 12)⟩,⟨some 14,none,.bin .mul (.t 11) (.t 13)⟩,⟨some 15,none,.mov (.t 0)⟩,⟨some 16,none,.bin .rem (.t 14) (.t 15)⟩,⟨some 17,none,.bin .eql (.t 16) (.c (.int .i64 1))⟩]) (.cond (.t 17) (.seq (.reg [⟨some 18,none,.mov (.t 5)⟩,⟨some 19,none,.cv .u8 (.t 18)⟩,⟨some 4,none,.mov (.t 19)⟩]) .ret) .skip))) (.reg [⟨some 9,none,.mov (.t 5)⟩,⟨some 10,none,.bin .add (.t 9) (.c (.int .i64 1))⟩,⟨some 5,none,.mov (.t 10)⟩])))))) (.seq (.reg [⟨some 4,none,.mov (.c (.int .u8 0))⟩]) .ret)))

set_option maxRecDepth 100000 in
theorem tr106 : trFn Tryz.prog Tryz.f106 = some (20, ir106, [.tmp 4]) := by kernel_rfl

theorem spec_l01Inverse (p x : Int) (H : Hp) (n : Nat) (hp : isP p = true) (hx : 0 ≤ x ∧ x ≤ 255) (hx0 : x % p ≠ 0) :
    FnS Tryz.prog 106 [i64 p, u8 x] H n (fun v H' _ => v = u8 (inv p x) ∧ H' = H) := by
  have hb := isP_le hp
  have hs := inv_spec hp hx0
  refine FnS.of_body Tryz.func106 tr106 (by simp) (fun hf => ?_)
  dsimp only [argEnv]
  unfold ir106
  (refine zG ?_)
  refine CS.iter 31 (fun i => [(5, i64 (i + 1 : Nat)), (0, i64 p), (1, u8 x)]) (fun _ => H) (fun i => ((i + 1 : Nat) : Int) ≤ p ∧ ∀ k : Nat, 1 ≤ k → k < i + 1 → (k : Int) * x % p ≠ 1) (by (repeat first | exact trivial | refine And.intro rfl ?_)) (Drops.refl _ _) ⟨by omega, fun k h1 h2 => by omega⟩ ?_
  intro i n1 hi hn ⟨hJ1, hJ⟩
  have hm := mulB (a := ((i + 1 : Nat) : Int)) (b := x) (A := 31) (B := 255) (by omega) (by omega) (by omega) (by omega)
  (refine zG ?_)
  refine zI ?_ ?_<;>intro h1
  · (refine zG ?_)
    refine zI ?_ ?_<;>intro h2
    · (refine zG ?_)
      exact ⟨u8 (inv p x), H, by rw [inv_eq hp (by omega) (by omega) h2], by exact zD, rfl, rfl⟩
    · (refine zG ?_)
      refine ⟨by omega, by (repeat first | exact trivial | refine And.intro rfl ?_), by exact zD, by omega, fun k h3 h4 => ?_⟩
      by_cases e : k < i + 1
      · exact hJ k h3 e
      · have : k = i + 1 := by omega
        subst this; exact h2
  · exfalso
    obtain ⟨q, hq⟩ : ∃ q : Nat, inv p x = q := ⟨(inv p x).toNat, by omega⟩
    exact hJ q (by omega) (by omega) (by rw [← hq]; exact hs.2.2)

/-- spec.l01Vector -/
def ir59 : Cd := (.seq (.reg [⟨some 5,none,.box 25 (.t 2)⟩,⟨some 6,none,.mov (.c (.bool false))⟩]) (.seq (.seq (.reg [⟨some 7,none,.mov (.c (.int .i64 0))⟩]) (.block 0 (.loop (.seq (.seq (.reg [⟨some 8,none,.mov (.t 7)⟩,⟨some 9,none,.bin .lss (.t 8) (.c (.int .i64 8))⟩]) (.cond (.t 9) .skip (.exit 0))) (.seq (.block 1 (.seq (.reg [⟨some 12,none,.mov (.t 7)⟩,⟨some 13,none,.ia 8 1 (.t 5) (.t 12)⟩,⟨some 14,none,.ld none (.t 13)⟩,⟨some 15,none,.cv .i64 (.t 14)⟩,⟨some 16,none,.mov (.t 0)⟩,⟨some 17,none,.bin .geq (.t 15) (.t 16)⟩,⟨some 18,none,.mov (.t 17)⟩,⟨some 19,(some (18,false)),.mov (.t 7)⟩,⟨some 20,(some (18,false)),.mov (.t 1)⟩,⟨some 21,(some (18,false)),.bin .geq (.t 19) (.t 20)⟩,⟨some 22,(some (18,false)),.mov (.t 21)⟩,⟨some 23,(some (22,true)),.mov (.t 7)⟩,⟨some 24,(some (22,true)),.ia 8 1 (.t 5) (.t 23)⟩,⟨some 25,(some (22,true)),.ld none (.t 24)⟩,⟨some 26,(some (22,true)),.bin .neq (.t 25) (.c (.int .u8 0))⟩,⟨some 27,(some (18,false)),.pick (.t 22) (.t 26) (.c (.bool false))⟩,⟨some 28,none,.pick (.t 18) (.c (.bool true)) (.t 27)⟩]) (.cond (.t 28) (.seq (.reg [⟨some 6,none,.mov (.c (.bool false))⟩]) .ret) .skip))) (.reg [⟨some 10,none,.mov (.t 7)⟩,⟨some 11,none,.bin .add (.t 10) (.c (.int .i64 1))⟩,⟨some 7,none,.mov (.t 11)⟩])))))) (.seq (.reg [⟨some 6,none,.mov (.c (.bool true))⟩]) .ret)))

set_option maxRecDepth 100000 in
theorem tr59 : trFn Tryz.prog Tryz.f59 = some (29, ir59, [.tmp 6]) := by kernel_rfl

theorem spec_l01Vector (p n' : Int) (v : Nat → Int) (H : Hp) (n : Nat) (hv : isBy 8 v) :
    FnS Tryz.prog 59 [i64 p, i64 n', .arr 8 (bys v)] H n (fun r H' _ => r = bl (tb (isVec p n' v)) ∧ H' = H) := by
  refine FnS.of_body Tryz.func59 tr59 (by simp) (fun hf => ?_)
  dsimp only [argEnv]
  unfold ir59
  (refine zG ?_)
  refine CS.iter 8 (fun i => [(7, i64 i), (5, ptr n 0), (0, i64 p), (1, i64 n')]) (fun _ => (n, ⟨8, bys v, 25⟩) :: H) (fun i => ∀ j : Nat, j < i → v j < p ∧ (n' ≤ j → v j = 0)) (by (repeat first | exact trivial | refine And.intro rfl ?_)) (Drops.refl _ _) (fun j hj => by omega) ?_
  intro i n4 hi hn4 hJ
  (refine zG ?_)
  refine zI ?_ ?_<;>intro h3
  · have hvi := hv i (by omega)
    (refine zG ?_)
    refine RS.sp (t := 18) rfl (fun h4 => ?_) (fun h4 => ?_) <;> (try simp only [tb_eq, tb_eqF, decide_eq_true_eq, decide_eq_false_iff_not, beq_iff_eq, bne_iff_ne, ne_eq, Decidable.not_not, beq_eq_false_iff_ne, bne_eq_false_iff_eq, Bool.not_eq_true', Bool.not_eq_false', Bool.not_eq_eq_eq_not, Bool.not_true, Bool.not_false] at h4)
    · (refine zG ?_)
      exact ⟨_, H, rfl, by exact zD, by rw [tb_false (fun h => by have := (h i (by omega)).1; omega)], rfl⟩
    · (refine zG ?_)
      refine RS.sp (t := 22) rfl (fun h5 => ?_) (fun h5 => ?_) <;> (try simp only [tb_eq, tb_eqF, decide_eq_true_eq, decide_eq_false_iff_not, beq_iff_eq, bne_iff_ne, ne_eq, Decidable.not_not, beq_eq_false_iff_ne, bne_eq_false_iff_eq, Bool.not_eq_true', Bool.not_eq_false', Bool.not_eq_eq_eq_not, Bool.not_true, Bool.not_false] at h5)
      · (refine zG ?_)
        refine zI ?_ ?_<;>intro h6
        · (refine zG ?_)
          exact ⟨_, H, rfl, by exact zD, by rw [tb_false (fun h => h6 ((h i (by omega)).2 (by omega)))], rfl⟩
        · (refine zG ?_)
          refine ⟨by omega, by (repeat first | exact trivial | refine And.intro rfl ?_), by exact zD, fun j hj => ?_⟩
          by_cases e : j < i
          · exact hJ j e
          · have : j = i := by omega
            subst this; exact ⟨by omega, fun _ => h6⟩
      · (refine zG ?_)
        refine ⟨by omega, by (repeat first | exact trivial | refine And.intro rfl ?_), by exact zD, fun j hj => ?_⟩
        by_cases e : j < i
        · exact hJ j e
        · have : j = i := by omega
          subst this; exact ⟨by omega, fun h => by omega⟩
  · (refine zG ?_)
    exact ⟨_, H, rfl, by exact zD, by rw [tb_true (show isVec p n' v from fun j hj => hJ j (by omega))], rfl⟩

/-- spec.l01Linear -/
def ir122 : Cd := (.seq (.reg [⟨some 5,none,.box 27 (.t 2)⟩,⟨some 6,none,.mov (.c (.bool false))⟩]) (.seq (.seq (.reg [⟨some 7,none,.mov (.c (.int .i64 0))⟩]) (.block 0 (.loop (.seq (.seq (.reg [⟨some 8,none,.mov (.t 7)⟩,⟨some 9,none,.bin .lss (.t 8) (.c (.int .i64 8))⟩]) (.cond (.t 9) .skip (.exit 0))) (.seq (.block 1 (.seq (.reg [⟨some 12,none,.mov (.t 0)⟩,⟨some 13,none,.mov (.t 1)⟩,⟨some 14,none,.mov (.t 7)⟩,⟨some 15,none,.ia 8 8 (.t 5) (.t 14)⟩,⟨some 16,none,.ld (some 8) (.t 15)⟩,⟨some 17,none,.call 59 [(.t 12),(.t 13),(.t 16)]⟩,⟨some 18,none,.un .not (.t 17)⟩,⟨some 19,none,.mov (.t 18)⟩,⟨some 20,(some (19,false)),.mov (.t 7)⟩,⟨some 21,(some (19,false)),.mov (.t 1)⟩,⟨some 22,(some (19,false)),.bin .geq (.t 20) (.t 21)⟩,⟨some 23,(some (19,false)),.mov (.t 22)⟩,⟨some 24,(some (23,true)),.mov (.t 7)⟩,⟨some 25,(some (23,true)),.ia 8 8 (.t 5) (.t 24)⟩,⟨some 26,(some (23,true)),.ld (some 8) (.t 25)⟩,⟨some 27,(some (23,true)),.build 8 [(8,(.int .u8 0))] []⟩,⟨some 28,(some (23,true)),.eqa true 8 (.t 26) (.t 27)⟩,⟨some 29,(some (19,false)),.pick (.t 23) (.t 28) (.c (.bool false))⟩,⟨some 30,none,.pick (.t 19) (.c (.bool true)) (.t 29)⟩]) (.cond (.t 30) (.seq (.reg [⟨some 6,none,.mov (.c (.bool false))⟩]) .ret) .skip))) (.reg [⟨some 10,none,.mov (.t 7)⟩,⟨some 11,none,.bin .add (.t 10) (.c (.int .i64 1))⟩,⟨some 7,none,.mov (.t 11)⟩])))))) (.seq (.reg [⟨some 6,none,.mov (.c (.bool true))⟩]) .ret)))

set_option maxRecDepth 100000 in
theorem tr122 : trFn Tryz.prog Tryz.f122 = some (31, ir122, [.tmp 6]) := by kernel_rfl

theorem spec_l01Linear (p n' : Int) (l : Nat → Int) (H : Hp) (n : Nat) (hl : isBy 64 l) :
    FnS Tryz.prog 122 [i64 p, i64 n', .arr 64 (bys l)] H n (fun r H' _ => r = bl (tb (isLin p n' n' l)) ∧ H' = H) := by
  have hk : ∀ i, i < 64 → bys l (0 + i) = .int .u8 (l i) := fun i _ => by rw [Nat.zero_add]; rfl
  refine FnS.of_body Tryz.func122 tr122 (by simp) (fun hf => ?_)
  dsimp only [argEnv]
  unfold ir122
  (refine zG ?_)
  refine CS.iter 8 (fun i => [(7, i64 i), (5, ptr n 0), (0, i64 p), (1, i64 n')]) (fun _ => (n, ⟨64, bys l, 27⟩) :: H) (fun i => ∀ j : Nat, j < i → isVec p n' (fun x => l (8 * j + x)) ∧ (n' ≤ j → ∀ x, x < 8 → l (8 * j + x) = 0)) (by (repeat first | exact trivial | refine And.intro rfl ?_)) (Drops.refl _ _) (fun j hj => by omega) ?_
  intro i n1 hi hn hJ
  (refine zG ?_)
  refine zI ?_ ?_<;>intro h1
  · (refine zG ?_)
    refine RS.call rfl ((spec_l01Vector p n' (fun x => l (8 * i + x)) _ _ (fun x hx => hl _ (by omega))).mono ?_)
    rintro r H' n2 hn2 ⟨rfl, rfl⟩
    (refine zG ?_)
    refine RS.sp (t := 19) rfl (fun h2 => ?_) (fun h2 => ?_) <;> (try simp only [tb_eq, tb_eqF, decide_eq_true_eq, decide_eq_false_iff_not, beq_iff_eq, bne_iff_ne, ne_eq, Decidable.not_not, beq_eq_false_iff_ne, bne_eq_false_iff_eq, Bool.not_eq_true', Bool.not_eq_false', Bool.not_eq_eq_eq_not, Bool.not_true, Bool.not_false] at h2)
    · (refine zG ?_)
      exact ⟨_, H, rfl, by exact zD, by rw [tb_false (fun h => h2 (h i (by omega)).1)], rfl⟩
    · (refine zG ?_)
      refine RS.sp (t := 23) rfl (fun h3 => ?_) (fun h3 => ?_) <;> (try simp only [tb_eq, tb_eqF, decide_eq_true_eq, decide_eq_false_iff_not, beq_iff_eq, bne_iff_ne, ne_eq, Decidable.not_not, beq_eq_false_iff_ne, bne_eq_false_iff_eq, Bool.not_eq_true', Bool.not_eq_false', Bool.not_eq_eq_eq_not, Bool.not_true, Bool.not_false] at h3)
      · (refine zG ?_)
        refine zI ?_ ?_<;>intro h4
        · (refine zG ?_)
          exact ⟨_, H, rfl, by exact zD, by rw [tb_false (fun h => h4 (fun x hx => (h i (by omega)).2 (by omega) x hx))], rfl⟩
        · (refine zG ?_)
          refine ⟨by omega, by (repeat first | exact trivial | refine And.intro rfl ?_), by exact zD, fun j hj => ?_⟩
          by_cases e : j < i
          · exact hJ j e
          · have : j = i := by omega
            subst this; exact ⟨h2, fun _ => h4⟩
      · (refine zG ?_)
        refine ⟨by omega, by (repeat first | exact trivial | refine And.intro rfl ?_), by exact zD, fun j hj => ?_⟩
        by_cases e : j < i
        · exact hJ j e
        · have : j = i := by omega
          subst this; exact ⟨h2, fun h => by omega⟩
  · (refine zG ?_)
    exact ⟨_, H, rfl, by exact zD, by rw [tb_true (show isLin p n' n' l from fun j hj => hJ j (by omega))], rfl⟩

/-- spec.l01Zero -/
def ir73 : Cd := (.seq (.reg [⟨some 1,none,.box 25 (.t 0)⟩,⟨some 2,none,.mov (.c (.bool false))⟩]) (.seq (.reg [⟨some 3,none,.ld (some 8) (.t 1)⟩,⟨some 4,none,.build 8 [(8,(.int .u8 0))] []⟩,⟨some 5,none,.eqa false 8 (.t 3) (.t 4)⟩,⟨some 2,none,.mov (.t 5)⟩]) .ret))

set_option maxRecDepth 100000 in
theorem tr73 : trFn Tryz.prog Tryz.f73 = some (6, ir73, [.tmp 2]) := by kernel_rfl

theorem spec_l01Zero (v : Nat → Int) (H : Hp) (n : Nat) :
    FnS Tryz.prog 73 [.arr 8 (bys v)] H n (fun r H' _ => r = bl (tb (∀ q, q < 8 → v q = 0)) ∧ H' = H) := by
  refine FnS.of_body Tryz.func73 tr73 (by simp) (fun hf => ?_)
  dsimp only [argEnv]
  unfold ir73
  (refine zG ?_)
  exact ⟨_, H, rfl, by exact zD, rfl, rfl⟩

/-- slices.IndexFunc[[]impl.Vector,impl.Vector] -/
def ir111 : Cd := (.seq (.reg [⟨some 4,none,.mov (.c (.int .i64 0))⟩]) (.seq (.seq (.reg [⟨some 6,none,.mov (.t 0)⟩,⟨some 7,none,.len (.t 6)⟩,⟨some 8,none,.mov (.c (.int .i64 0))⟩]) (.block 0 (.loop (.seq (.reg [⟨some 9,none,.bin .lss (.t 8) (.t 7)⟩]) (.seq (.cond (.t 9) .skip (.exit 0)) (.seq (.block 1 (.seq (.reg [⟨some 10,none,.mov (.t 8)⟩,⟨some 5,none,.mov (.t 10)⟩]) (.seq (.reg [⟨some 11,none,.mov (.t 1)⟩,⟨some 12,none,.mov (.t 0)⟩,⟨some 13,none,.mov (.t 5)⟩,⟨some 14,none,.isl 8 (.t 12) (.t 13)⟩,⟨some 15,none,.ld (some 8) (.t 14)⟩,⟨some 16,none,.callv (.t 11) [(.t 15)]⟩]) (.cond (.t 16) (.seq (.reg [⟨some 17,none,.mov (.t 5)⟩,⟨some 4,none,.mov (.t 17)⟩]) .ret) .skip)))) (.reg [⟨some 18,none,.bin .add (.t 8) (.c (.int .i64 1))⟩,⟨some 8,none,.mov (.t 18)⟩]))))))) (.seq (.reg [⟨some 4,none,.mov (.c (.int .i64 (-1)))⟩]) .ret)))

set_option maxRecDepth 100000 in
theorem tr111 : trFn Tryz.prog Tryz.f111 = some (19, ir111, [.tmp 4]) := by kernel_rfl

theorem slices_IndexFunc (Q : Nat → Prop) (F : FuncId) (post : List SV) (v : SV) (len : Nat) (hl : len ≤ 4000000) (w : Nat → Int) (H : Hp) (n : Nat) (hv : lst H v len w)
    (hF : ∀ i n' : Nat, i < len → n ≤ n' → FnS Tryz.prog F ([.arr 8 (bys (fun x => w (i * 8 + x)))] ++ post.map .s) H n' (fun r H' _ => r = bl (tb (Q i)) ∧ H' = H)) :
    FnS Tryz.prog 111 [.s v, .s (.fn F [] post)] H n (fun r H' _ => (∃ x, r = i64 x ∧ (0 ≤ x ↔ ∃ i, i < len ∧ Q i)) ∧ H' = H) := by
  refine FnS.of_body Tryz.func111 tr111 (by simp) (fun hf => ?_)
  dsimp only [argEnv]
  unfold ir111
  rcases hv with ⟨rfl, rfl⟩ | ⟨b, o, c, K, rfl, hb, ho, hc⟩
  · (refine zG ?_)
    refine CS.iter 0 (fun i => [(8, i64 i), (7, i64 0)]) (fun _ => H) (fun _ => True) (by (repeat first | exact trivial | refine And.intro rfl ?_)) (Drops.refl _ _) trivial ?_
    intro i n1 hi hn _
    (refine zG ?_)
    exact ⟨_, H, rfl, by exact zD, ⟨-1, rfl, by omega, fun ⟨i, hi, _⟩ => by omega⟩, rfl⟩
  · (refine zG ?_)
    refine CS.iter len (fun i => [(8, i64 i), (7, i64 len), (0, .s (.slc b o len c)), (1, .s (.fn F [] post))]) (fun _ => H) (fun i => ∀ i', i' < i → ¬Q i') (by (repeat first | exact trivial | refine And.intro rfl ?_)) (Drops.refl _ _) (fun _ h => by omega) ?_
    intro i n1 hi hn hJ
    (refine zG ?_)
    refine zI ?_ ?_<;>intro h1
    · (refine zG ?_)
      refine RS.callv (f := F) (pre := []) (post := post) (vs := [.arr 8 (bys (fun x => w (i * 8 + x)))]) (by exact rfl) (by exact rfl) ?_
      refine FnS.mono (hF i n1 (by omega) (by omega)) ?_
      rintro r H n2 hn2 ⟨rfl, rfl⟩
      (refine zG ?_)
      refine zI ?_ ?_<;>intro h2
      · (refine zG ?_)
        exact ⟨_, H, rfl, by exact zD, ⟨i, rfl, fun _ => ⟨i, by omega, h2⟩, fun _ => by omega⟩, rfl⟩
      · (refine zG ?_)
        refine ⟨by omega, by (repeat first | exact trivial | refine And.intro rfl ?_), Drops.refl _ _, fun i' hi' => ?_⟩
        by_cases e : i' = i
        · subst e; exact h2
        · exact hJ i' (by omega)
    · have : i = len := by omega
      subst this
      (refine zG ?_)
      exact ⟨_, H, rfl, by exact zD, ⟨-1, rfl, by omega, fun ⟨i', hi', hq⟩ => absurd hq (hJ i' hi')⟩, rfl⟩

/-- slices.ContainsFunc[[]impl.Vector,impl.Vector] -/
def ir91 : Cd := (.seq (.reg [⟨some 4,none,.mov (.c (.bool false))⟩]) (.seq (.reg [⟨some 5,none,.mov (.t 0)⟩,⟨some 6,none,.mov (.t 1)⟩,⟨some 7,none,.call 111 [(.t 5),(.t 6)]⟩,⟨some 8,none,.bin .geq (.t 7) (.c (.int .i64 0))⟩,⟨some 4,none,.mov (.t 8)⟩]) .ret))

set_option maxRecDepth 100000 in
theorem tr91 : trFn Tryz.prog Tryz.f91 = some (9, ir91, [.tmp 4]) := by kernel_rfl

theorem slices_ContainsFunc (Q : Nat → Prop) (F : FuncId) (post : List SV) (v : SV) (len : Nat) (hl : len ≤ 4000000) (w : Nat → Int) (H : Hp) (n : Nat) (hv : lst H v len w)
    (hF : ∀ i n' : Nat, i < len → n ≤ n' → FnS Tryz.prog F ([.arr 8 (bys (fun x => w (i * 8 + x)))] ++ post.map .s) H n' (fun r H' _ => r = bl (tb (Q i)) ∧ H' = H)) :
    FnS Tryz.prog 91 [.s v, .s (.fn F [] post)] H n (fun r H' _ => r = bl (tb (∃ i, i < len ∧ Q i)) ∧ H' = H) := by
  refine FnS.of_body Tryz.func91 tr91 (by simp) (fun hf => ?_)
  dsimp only [argEnv]
  unfold ir91
  (refine zG ?_)
  refine RS.call rfl ((slices_IndexFunc Q F post v len hl w _ _ hv hF).mono ?_)
  rintro r H n2 hn2 ⟨⟨x, rfl, hx⟩, rfl⟩
  (refine zG ?_)
  exact ⟨_, H, rfl, by exact zD, by rw [← tb_iff hx, tb_dec], rfl⟩

end Go.Proofs.YtgnphaopeplfbaaGreatDoor
