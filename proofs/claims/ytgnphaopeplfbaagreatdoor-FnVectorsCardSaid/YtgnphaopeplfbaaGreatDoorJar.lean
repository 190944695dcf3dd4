/- Contracts of the program's functions. -/
import Derived.Test.YtgnphaopeplfbaaGreatDoorJam
import Derived.Test.YtgnphaopeplfbaaGreatDoorJao
import Derived.Test.YtgnphaopeplfbaaGreatDoorJaq
set_option linter.unusedSectionVars false
set_option linter.unusedVariables false
set_option linter.unusedSimpArgs false

namespace Go.Proofs.YtgnphaopeplfbaaGreatDoor

open Go.V

variable [BW]

set_option linter.unusedSimpArgs false

set_option linter.unusedVariables false

set_option maxHeartbeats 4000000

/-- (*impl.Algebra).product -/
def ir30 : Cd := (.seq (.reg [⟨some 4,none,.box 25 (.t 1)⟩,⟨some 5,none,.box 25 (.t 2)⟩,⟨some 6,none,.new 25 [(8,(.int .u8 0))]⟩]) (.seq (.reg [⟨some 11,none,.mov (.t 0)⟩,⟨some 12,none,.call 53 [(.t 11)]⟩,⟨some 13,none,.build 8 [(8,(.int .u8 0))] []⟩,⟨some 7,none,.new 92 [(2,(.int .i64 0))]⟩,⟨some 8,none,.new 25 [(8,(.int .u8 0))]⟩,⟨none,none,.st 2 (.t 7) (.t 12)⟩,⟨none,none,.st 8 (.t 8) (.t 13)⟩]) (.seq (.seq (.reg [⟨some 14,none,.fa 1 (.t 7)⟩,⟨some 15,none,.ld none (.t 14)⟩,⟨some 16,none,.mov (.c (.int .i64 0))⟩]) (.block 0 (.loop (.seq (.reg [⟨some 17,none,.bin .lss (.t 16) (.t 15)⟩]) (.seq (.cond (.t 17) .skip (.exit 0)) (.seq (.block 1 (.seq (.reg [⟨some 18,none,.mov (.t 16)⟩,⟨some 9,none,.mov (.t 18)⟩]) (.seq (.seq (.reg [⟨some 19,none,.mov (.t 9)⟩,⟨some 20,none,.ia 8 1 (.t 4) (.t 19)⟩,⟨some 21,none,.ld none (.t 20)⟩,⟨some 22,none,.bin .eql (.t 21) (.c (.int .u8 0))⟩]) (.cond (.t 22) (.exit 1) .skip)) (.seq (.reg [⟨some 23,none,.fa 1 (.t 7)⟩,⟨some 24,none,.ld none (.t 23)⟩,⟨some 25,none,.mov (.c (.int .i64 0))⟩]) (.block 2 (.loop (.seq (.reg [⟨some 26,none,.bin .lss (.t 25) (.t 24)⟩]) (.seq (.cond (.t 26) .skip (.exit 2)) (.seq (.block 3 (.seq (.reg [⟨some 27,none,.mov (.t 25)⟩,⟨some 10,none,.mov (.t 27)⟩]) (.drw true [18] [⟨some 28,none,.ld (some 2) (.t 7)⟩,⟨some 29,none,.mov (.t 9)⟩,⟨some 30,none,.ia 8 1 (.t 4) (.t 29)⟩,⟨some 31,none,.ld none (.t 30)⟩,⟨some 32,none,.cv .i64 (.t 31)⟩,⟨some 33,none,.mov (.t 10)⟩,⟨some 34,none,.ia 8 1 (.t 5) (.t 33)⟩,⟨some 35,none,.ld none (.t 34)⟩,⟨some 36,none,.cv .i64 (.t 35)⟩,⟨some 37,none,.bin .mul (.t 32) (.t 36)⟩,⟨some 38,none,.mov (.t 0)⟩,⟨some 39,none,.mov (.t 9)⟩,⟨some 40,none,.mov (.t 10)⟩,⟨some 41,none,.ck (.t 38)⟩,⟨some 42,none,.fa 10 (.t 41)⟩,⟨some 43,none,.ia 8 64 (.t 42) (.t 39)⟩,⟨some 44,none,.ia 8 8 (.t 43) (.t 40)⟩,⟨some 45,none,.ld (some 8) (.t 44)⟩,⟨some 46,none,.call 64 [(.t 28),(.t 8),(.t 37),(.t 45)]⟩]))) (.reg [⟨some 47,none,.bin .add (.t 25) (.c (.int .i64 1))⟩,⟨some 25,none,.mov (.t 47)⟩])))))))))) (.reg [⟨some 48,none,.bin .add (.t 16) (.c (.int .i64 1))⟩,⟨some 16,none,.mov (.t 48)⟩]))))))) (.seq (.reg [⟨some 49,none,.ld (some 8) (.t 8)⟩,⟨none,none,.st 8 (.t 6) (.t 49)⟩]) .ret))))

set_option maxRecDepth 100000 in
theorem tr30 : trFn Tryz.prog Tryz.f30 = some (50, ir30, [.cell (some 8) 6]) := by kernel_rfl

theorem Algebra_product (p : Int) (a : Nat) (m v w : Nat → Int) (b : Nat) (K : Blk) (H : Hp) (n : Nat) (hp : 2 ≤ p ∧ p ≤ 31) (ha : a ≤ 8) (hb : H.get b = some K) (hsz : K.size = 522)
    (h0 : K.c 0 = .int .i64 p) (h1 : K.c 1 = .int .i64 a)
    (hK : ∀ q, q < 512 → K.c (10 + q) = .int .u8 (m q)) (hm : isBy 512 m) (hv : isBy 8 v) (hw : isBy 8 w) :
    FnS Tryz.prog 30 [ptr b 0, .arr 8 (bys v), .arr 8 (bys w)] H n (fun r H' _ => r = .arr 8 (bys (pr p m v w a)) ∧ H' = H) := by
  refine FnS.of_body Tryz.func30 tr30 (by simp) (fun hf => ?_)
  dsimp only [argEnv]
  unfold ir30
  have hbn : b < n := by
    rcases Nat.lt_or_ge b n with h | h
    · exact h
    · rw [hf b h] at hb; cases hb
  (refine zG ?_)
  refine RS.call rfl ((Algebra_field p a b K _ _ (by exact zH) hsz h0 h1 (by omega)).mono ?_)
  rintro r H' n2 hn2 ⟨rfl, rfl⟩
  (refine zG ?_)
  refine CS.iter a (fun i => [(16, i64 i), (15, i64 a), (0, ptr b 0), (4, ptr n 0), (5, ptr (n + 1) 0), (6, ptr (n + 2) 0), (7, ptr n2 0), (8, ptr (n2 + 1) 0)])
    (fun i => (n2 + 1, ⟨8, bys (pk p m v w a i 0), 25⟩) :: (n2, ⟨2, fldC p a, 92⟩) :: (n + 2, ⟨8, bys (fun _ => 0), 25⟩) :: (n + 1, ⟨8, bys w, 25⟩) :: (n, ⟨8, bys v, 25⟩) :: H) (fun _ => True) (by (repeat first | exact trivial | refine And.intro rfl ?_))
    (Drops.keepc rfl rfl (fun _ _ => by rw [pk_zero]; rfl) (Drops.keepc rfl rfl (fun _ _ => rfl) (Drops.keepc rfl rfl (fun _ _ => rfl) (Drops.refl _ _)))) trivial ?_
  intro i n3 hi hn _
  (refine zG ?_)
  refine zI ?_ ?_<;>intro h2
  · have hvi := hv i (by omega)
    (refine zG ?_)
    refine zI ?_ ?_<;>intro h3
    · (refine zG ?_)
      exact ⟨by omega, by (repeat first | exact trivial | refine And.intro rfl ?_), by rw [pk_skip h3]; exact Drops.refl _ _, trivial⟩
    · (refine zG ?_)
      refine CS.iter a (fun j => [(25, i64 j), (24, i64 a), (9, i64 i), (16, i64 i), (15, i64 a), (0, ptr b 0), (4, ptr n 0), (5, ptr (n + 1) 0), (6, ptr (n + 2) 0), (7, ptr n2 0), (8, ptr (n2 + 1) 0)])
        (fun j => (n2 + 1, ⟨8, bys (pk p m v w a i j), 25⟩) :: (n2, ⟨2, fldC p a, 92⟩) :: (n + 2, ⟨8, bys (fun _ => 0), 25⟩) :: (n + 1, ⟨8, bys w, 25⟩) :: (n, ⟨8, bys v, 25⟩) :: H) (fun _ => True) (by (repeat first | exact trivial | refine And.intro rfl ?_))
        (Drops.refl _ _) trivial ?_
      intro j n4 hj hn4 _
      (refine zG ?_)
      refine zI ?_ ?_<;>intro h4
      · have hwj := hw j (by omega)
        have hvw := mulB hvi.1 hvi.2 hwj.1 hwj.2
        (repeat first|refine zG ?_|(refine LS.nilO ?_;intro nq hnq hltq;try refine zU ?_)|(refine MS.new ?_;intro bq hbq hbqf;try refine zU ?_)|(refine MS.nil ?_;intro nq hnq hltq;have hlq:=hltq _ _ (Hp.get_eq _ _ _);clear hltq;try refine zU ?_)|(refine LS.nilQ ?_;try with_reducible intro nq hnq;try refine zU ?_))
        refine RS.call rfl ((field_plus p a (v i * w j) (pk p m v w a i j) (fun x => m (64 * i + 8 * j + x)) (n2 + 1) 0 ⟨8, bys (pk p m v w a i j), 25⟩ _ _ hp (by exact zH) (by simp) (fun _ _ => by rw [Nat.zero_add]; rfl) (pk_res hp.1 _ _ _ _ _ _ _) (fun x hx => hm _ (by omega)) (by omega)).mono ?_)
        rintro r H' n5 hn5 ⟨rfl, rfl⟩
        simp (disch := omega) only [Hp.set_eq, Hp.set_ne]
        (refine zG ?_)
        exact ⟨by omega, by (repeat first | exact trivial | refine And.intro rfl ?_), Drops.keepc rfl rfl (fun q hq => (splice_all _ _ 8 q hq).trans (by rw [pk_step])) (Drops.refl _ _), trivial⟩
      · have : j = a := by omega
        subst this
        (refine zG ?_)
        exact ⟨by omega, by (repeat first | exact trivial | refine And.intro rfl ?_), by rw [pk_row]; exact Drops.refl _ _, trivial⟩
  · have : i = a := by omega
    subst this
    (refine zG ?_)
    exact ⟨.arr 8 (bys (pr p m v w i)), _, conc_arr (fun q hq => by simp only [Nat.zero_add]; rfl), by exact zD, rfl, rfl⟩

/-- (*impl.Algebra).fault -/
def ir90 : Cd := (.seq (.reg [⟨some 2,none,.mov (.c .nils)⟩]) (.seq (.reg [⟨some 7,none,.mov (.t 0)⟩,⟨some 8,none,.ck (.t 7)⟩,⟨some 9,none,.fa 1 (.t 8)⟩,⟨some 10,none,.ld none (.t 9)⟩,⟨some 3,none,.mov (.t 10)⟩]) (.seq (.seq (.reg [⟨some 11,none,.mov (.t 3)⟩,⟨some 12,none,.mov (.c (.int .i64 0))⟩]) (.block 0 (.loop (.seq (.reg [⟨some 13,none,.bin .lss (.t 12) (.t 11)⟩]) (.seq (.cond (.t 13) .skip (.exit 0)) (.seq (.block 1 (.seq (.reg [⟨some 14,none,.mov (.t 12)⟩,⟨some 4,none,.mov (.t 14)⟩]) (.seq (.reg [⟨some 15,none,.mov (.t 3)⟩,⟨some 16,none,.mov (.c (.int .i64 0))⟩]) (.block 2 (.loop (.seq (.reg [⟨some 17,none,.bin .lss (.t 16) (.t 15)⟩]) (.seq (.cond (.t 17) .skip (.exit 2)) (.seq (.block 3 (.seq (.reg [⟨some 18,none,.mov (.t 16)⟩,⟨some 5,none,.mov (.t 18)⟩]) (.seq (.reg [⟨some 19,none,.mov (.t 3)⟩,⟨some 20,none,.mov (.c (.int .i64 0))⟩]) (.block 4 (.loop (.seq (.reg [⟨some 21,none,.bin .lss (.t 20) (.t 19)⟩]) (.seq (.cond (.t 21) .skip (.exit 4)) (.seq (.block 5 (.seq (.reg [⟨some 22,none,.mov (.t 20)⟩,⟨some 6,none,.mov (.t 22)⟩]) (.seq (.drwo true [23] [0,1,2,3,4,5,6,7,8,9,12,13,15,16,17,18,19,20,21,22,10,11,14,23,24] [⟨some 23,none,.mov (.t 0)⟩,⟨some 24,none,.mov (.t 0)⟩,⟨some 25,none,.mov (.t 4)⟩,⟨some 26,none,.mov (.t 5)⟩,⟨some 27,none,.ck (.t 24)⟩,⟨some 28,none,.fa 10 (.t 27)⟩,⟨some 29,none,.ia 8 64 (.t 28) (.t 25)⟩,⟨some 30,none,.ia 8 8 (.t 29) (.t 26)⟩,⟨some 31,none,.ld (some 8) (.t 30)⟩,⟨some 32,none,.mov (.t 6)⟩,⟨some 33,none,.call 40 [(.t 32)]⟩,⟨some 34,none,.call 30 [(.t 23),(.t 31),(.t 33)]⟩,⟨some 35,none,.mov (.t 0)⟩,⟨some 36,none,.mov (.t 4)⟩,⟨some 37,none,.call 40 [(.t 36)]⟩,⟨some 38,none,.mov (.t 0)⟩,⟨some 39,none,.mov (.t 5)⟩,⟨some 40,none,.mov (.t 6)⟩,⟨some 41,none,.ck (.t 38)⟩,⟨some 42,none,.fa 10 (.t 41)⟩,⟨some 43,none,.ia 8 64 (.t 42) (.t 39)⟩,⟨some 44,none,.ia 8 8 (.t 43) (.t 40)⟩,⟨some 45,none,.ld (some 8) (.t 44)⟩,⟨some 46,none,.call 30 [(.t 35),(.t 37),(.t 45)]⟩,⟨some 47,none,.eqa true 8 (.t 34) (.t 46)⟩]) (.cond (.t 47) (.seq (.reg [⟨some 48,none,.mov (.t 4)⟩,⟨some 49,none,.mov (.t 5)⟩,⟨some 50,none,.mov (.t 6)⟩,⟨some 51,none,.bsl 2 3 1 [(1,(.int .i64 0))] [(0,1,(.t 48)),(1,1,(.t 49)),(2,1,(.t 50))]⟩,⟨some 2,none,.mov (.t 51)⟩]) .ret) .skip)))) (.reg [⟨some 52,none,.bin .add (.t 20) (.c (.int .i64 1))⟩,⟨some 20,none,.mov (.t 52)⟩]))))))))) (.reg [⟨some 53,none,.bin .add (.t 16) (.c (.int .i64 1))⟩,⟨some 16,none,.mov (.t 53)⟩]))))))))) (.reg [⟨some 54,none,.bin .add (.t 12) (.c (.int .i64 1))⟩,⟨some 12,none,.mov (.t 54)⟩]))))))) (.seq (.reg [⟨some 2,none,.mov (.c .nils)⟩]) .ret))))

set_option maxRecDepth 100000 in
theorem tr90 : trFn Tryz.prog Tryz.f90 = some (55, ir90, [.tmp 2]) := by kernel_rfl

theorem Algebra_fault (p : Int) (a : Nat) (m : Nat → Int) (b : Nat) (K : Blk) (H : Hp) (n : Nat) (hp : 2 ≤ p ∧ p ≤ 31) (ha : a ≤ 8) (hb : H.get b = some K) (hsz : K.size = 522)
    (h0 : K.c 0 = .int .i64 p) (h1 : K.c 1 = .int .i64 a) (hK : ∀ q, q < 512 → K.c (10 + q) = .int .u8 (m q)) (hm : isBy 512 m) :
    FnS Tryz.prog 90 [ptr b 0] H n (fun r H' _ => ((r = .s .nils ∧ assoc p a m) ∨ ((∃ b o l c, r = .s (.slc b o l c)) ∧ ¬assoc p a m)) ∧ H' = H) := by
  refine FnS.of_body Tryz.func90 tr90 (by simp) (fun hf => ?_)
  dsimp only [argEnv]
  unfold ir90
  have hbn := getlt hf hb
  (refine zG ?_)
  refine CS.iter a (fun i => [(12, i64 i), (11, i64 a), (3, i64 a), (0, ptr b 0)]) (fun _ => H)
    (fun i => ∀ i' j k : Nat, i' < i → j < a → k < a → ∀ q, q < 8 → pr p m (fun x => m (64 * i' + 8 * j + x)) (bas k) a q = pr p m (bas i') (fun x => m (64 * j + 8 * k + x)) a q) (by (repeat first | exact trivial | refine And.intro rfl ?_)) (Drops.refl _ _) (fun _ _ _ h => by omega) ?_
  intro i n1 hi hn hJ
  (refine zG ?_)
  refine zI ?_ ?_<;>intro h2
  · (refine zG ?_)
    refine CS.iter a (fun j => [(16, i64 j), (15, i64 a), (4, i64 i), (12, i64 i), (11, i64 a), (3, i64 a), (0, ptr b 0)]) (fun _ => H)
      (fun j => ∀ j' k : Nat, j' < j → k < a → ∀ q, q < 8 → pr p m (fun x => m (64 * i + 8 * j' + x)) (bas k) a q = pr p m (bas i) (fun x => m (64 * j' + 8 * k + x)) a q) (by (repeat first | exact trivial | refine And.intro rfl ?_)) (Drops.refl _ _) (fun _ _ h => by omega) ?_
    intro j n2 hj hn2 hJ2
    (refine zG ?_)
    refine zI ?_ ?_<;>intro h3
    · (refine zG ?_)
      refine CS.iter a (fun k => [(20, i64 k), (19, i64 a), (5, i64 j), (16, i64 j), (15, i64 a), (4, i64 i), (12, i64 i), (11, i64 a), (3, i64 a), (0, ptr b 0)]) (fun _ => H)
        (fun k => ∀ k' : Nat, k' < k → ∀ q, q < 8 → pr p m (fun x => m (64 * i + 8 * j + x)) (bas k') a q = pr p m (bas i) (fun x => m (64 * j + 8 * k' + x)) a q) (by (repeat first | exact trivial | refine And.intro rfl ?_)) (Drops.refl _ _) (fun _ h => by omega) ?_
      intro k n3 hk hn3 hJ3
      (refine zG ?_)
      refine zI ?_ ?_<;>intro h4
      · (refine zG ?_)
        refine CS.quietLo ?_
        (refine zG ?_)
        refine LS.callQ (.arr 8 (bys (bas k))) rfl (fun n' hn' => impl_basis k _ _ (by omega)) ?_
        (repeat first|refine zG ?_|(refine LS.nilO ?_;intro nq hnq hltq;try refine zU ?_)|(refine MS.new ?_;intro bq hbq hbqf;try refine zU ?_)|(refine MS.nil ?_;intro nq hnq hltq;have hlq:=hltq _ _ (Hp.get_eq _ _ _);clear hltq;try refine zU ?_)|(refine LS.nilQ ?_;try with_reducible intro nq hnq;try refine zU ?_))
        refine LS.callQ (.arr 8 (bys (pr p m (fun x => m (64 * i + 8 * j + x)) (bas k) a))) rfl (fun n' hn' => Algebra_product p a m (fun x => m (64 * i + 8 * j + x)) (bas k) b K _ _ hp ha (by exact zH) hsz h0 h1 hK hm (fun x hx => hm _ (by omega)) (bas_by _ _)) ?_
        (refine zG ?_)
        refine LS.callQ (.arr 8 (bys (bas i))) rfl (fun n' hn' => impl_basis i _ _ (by omega)) ?_
        (refine zG ?_)
        refine LS.callQ (.arr 8 (bys (pr p m (bas i) (fun x => m (64 * j + 8 * k + x)) a))) rfl (fun n' hn' => Algebra_product p a m (bas i) (fun x => m (64 * j + 8 * k + x)) b K _ _ hp ha (by exact zH) hsz h0 h1 hK hm (bas_by _ _) (fun x hx => hm _ (by omega))) ?_
        (repeat first|refine zG ?_|(refine LS.nilO ?_;intro nq hnq hltq;try refine zU ?_)|(refine MS.new ?_;intro bq hbq hbqf;try refine zU ?_)|(refine MS.nil ?_;intro nq hnq hltq;have hlq:=hltq _ _ (Hp.get_eq _ _ _);clear hltq;try refine zU ?_)|(refine LS.nilQ ?_;try with_reducible intro nq hnq;try refine zU ?_))
        refine zI ?_ ?_<;>intro h5
        · (refine zG ?_)
          exact ⟨_, H, rfl, by exact zD, .inr ⟨⟨_, _, _, _, rfl⟩, fun h => h5 (h i j k (by omega) (by omega) (by omega))⟩, rfl⟩
        · (refine zG ?_)
          refine ⟨by omega, by (repeat first | exact trivial | refine And.intro rfl ?_), Drops.refl _ _, fun k' hk' => ?_⟩
          by_cases e : k' = k
          · subst e; exact h5
          · exact hJ3 k' (by omega)
      · have : k = a := by omega
        subst this
        (refine zG ?_)
        refine ⟨by omega, by (repeat first | exact trivial | refine And.intro rfl ?_), Drops.refl _ _, fun j' k' hj' => ?_⟩
        by_cases e : j' = j
        · subst e; exact fun hk' => hJ3 k' hk'
        · exact hJ2 j' k' (by omega)
    · have : j = a := by omega
      subst this
      (refine zG ?_)
      refine ⟨by omega, by (repeat first | exact trivial | refine And.intro rfl ?_), Drops.refl _ _, fun i' j' k' hi' => ?_⟩
      by_cases e : i' = i
      · subst e; exact fun hj' hk' => hJ2 j' k' hj' hk'
      · exact hJ i' j' k' (by omega)
  · have : i = a := by omega
    subst this
    (refine zG ?_)
    exact ⟨_, H, rfl, by exact zD, .inl ⟨rfl, fun i' j' k' h1 h2 h3 => hJ i' j' k' h1 h2 h3⟩, rfl⟩

end Go.Proofs.YtgnphaopeplfbaaGreatDoor

/- Contracts of the program's functions. -/

namespace Go.Proofs.YtgnphaopeplfbaaGreatDoor

open Go.V

variable [BW]

set_option linter.unusedSimpArgs false

set_option linter.unusedVariables false

set_option maxHeartbeats 4000000

/-- impl.IsAlgebra -/
def ir62 : Cd := (.seq (.reg [⟨some 1,none,.box 31 (.t 0)⟩,⟨some 2,none,.mov (.c (.bool false))⟩]) (.seq (.seq (.reg [⟨some 5,none,.call 89 [(.t 1)]⟩,⟨some 6,none,.un .not (.t 5)⟩]) (.cond (.t 6) (.seq (.reg [⟨some 2,none,.mov (.c (.bool false))⟩]) .ret) .skip)) (.seq (.seq (.reg [⟨some 7,none,.fa 1 (.t 1)⟩,⟨some 8,none,.ld none (.t 7)⟩,⟨some 9,none,.mov (.c (.int .i64 0))⟩]) (.block 0 (.loop (.seq (.reg [⟨some 10,none,.bin .lss (.t 9) (.t 8)⟩]) (.seq (.cond (.t 10) .skip (.exit 0)) (.seq (.block 1 (.seq (.reg [⟨some 11,none,.mov (.t 9)⟩,⟨some 3,none,.mov (.t 11)⟩]) (.seq (.reg [⟨some 12,none,.mov (.t 3)⟩,⟨some 13,none,.call 40 [(.t 12)]⟩,⟨some 4,none,.new 25 [(8,(.int .u8 0))]⟩,⟨none,none,.st 8 (.t 4) (.t 13)⟩]) (.seq (.drw true [] [⟨some 14,none,.fa 2 (.t 1)⟩,⟨some 15,none,.ld (some 8) (.t 14)⟩,⟨some 16,none,.ld (some 8) (.t 4)⟩,⟨some 17,none,.call 30 [(.t 1),(.t 15),(.t 16)]⟩,⟨some 18,none,.ld (some 8) (.t 4)⟩,⟨some 19,none,.eqa true 8 (.t 17) (.t 18)⟩,⟨some 20,none,.mov (.t 19)⟩,⟨some 21,(some (20,false)),.ld (some 8) (.t 4)⟩,⟨some 22,(some (20,false)),.fa 2 (.t 1)⟩,⟨some 23,(some (20,false)),.ld (some 8) (.t 22)⟩,⟨some 24,(some (20,false)),.call 30 [(.t 1),(.t 21),(.t 23)]⟩,⟨some 25,(some (20,false)),.ld (some 8) (.t 4)⟩,⟨some 26,(some (20,false)),.eqa true 8 (.t 24) (.t 25)⟩,⟨some 27,none,.pick (.t 20) (.c (.bool true)) (.t 26)⟩]) (.cond (.t 27) (.seq (.reg [⟨some 2,none,.mov (.c (.bool false))⟩]) .ret) .skip))))) (.reg [⟨some 28,none,.bin .add (.t 9) (.c (.int .i64 1))⟩,⟨some 9,none,.mov (.t 28)⟩]))))))) (.seq (.reg [⟨some 29,none,.call 90 [(.t 1)]⟩,⟨some 30,none,.snil false (.t 29)⟩,⟨some 2,none,.mov (.t 30)⟩]) .ret))))

set_option maxRecDepth 100000 in
theorem tr62 : trFn Tryz.prog Tryz.f62 = some (31, ir62, [.tmp 2]) := by kernel_rfl

theorem impl_IsAlgebra (p n' : Int) (u m : Nat → Int) (K : Nat → SV) (H : Hp) (n : Nat) (h0 : K 0 = .int .i64 p) (h1 : K 1 = .int .i64 n')
    (hU : ∀ q, q < 8 → K (2 + q) = .int .u8 (u q)) (hK : ∀ q, q < 512 → K (10 + q) = .int .u8 (m q)) (hu : isBy 8 u) (hm : isBy 512 m) :
    FnS Tryz.prog 62 [.arr 522 K] H n (fun v H' _ => v = bl (tb (isAlg p n' u m)) ∧ H' = H) := by
  refine FnS.of_body Tryz.func62 tr62 (by simp) (fun hf => ?_)
  dsimp only [argEnv]
  unfold ir62
  (refine zG ?_)
  refine RS.call rfl ((Algebra_isShaped p n' u m n _ _ _ (by exact zH) rfl h0 h1 hU hK hu hm).mono ?_)
  rintro r H n2 hn2 ⟨rfl, rfl⟩
  (refine zG ?_)
  refine zI ?_ ?_<;>intro h2
  · (refine zG ?_)
    exact ⟨_, H, rfl, by exact zD, by rw [tb_false (fun h => h2 h.1)], rfl⟩
  · obtain ⟨hz1, hz2, hz3⟩ := h2.1
    obtain ⟨a, rfl⟩ := Int.eq_ofNat_of_zero_le (show 0 ≤ n' by omega)
    have hp := isP_le hz1
    have ha : a ≤ 8 := by omega
    (refine zG ?_)
    refine CS.iter a (fun i => [(9, i64 i), (8, i64 a), (1, ptr n 0)]) (fun _ => (n, ⟨522, K, 31⟩) :: H)
      (fun i => ∀ i' : Nat, i' < i → (∀ q, q < 8 → pr p m u (bas i') a q = bas i' q) ∧ (∀ q, q < 8 → pr p m (bas i') u a q = bas i' q)) (by (repeat first | exact trivial | refine And.intro rfl ?_)) (Drops.refl _ _) (fun _ h => by omega) ?_
    intro i n3 hi hn hJ
    (refine zG ?_)
    refine zI ?_ ?_<;>intro h3
    · (refine zG ?_)
      refine RS.call rfl ((impl_basis i _ _ (by omega)).mono ?_)
      rintro r H n4 hn4 ⟨rfl, rfl⟩
      (refine zG ?_)
      refine LS.callQ (.arr 8 (bys (pr p m u (bas i) a))) rfl (fun n' hn' => Algebra_product p a m u (bas i) n _ _ _ hp ha (by exact zH) rfl h0 h1 hK hm hu (bas_by _ _)) ?_
      (refine zG ?_)
      refine RS.sp (t := 20) rfl (fun h4 => ?_) (fun h4 => ?_) <;> (try simp only [tb_eq, tb_eqF, decide_eq_true_eq, decide_eq_false_iff_not, beq_iff_eq, bne_iff_ne, ne_eq, Decidable.not_not, beq_eq_false_iff_ne, bne_eq_false_iff_eq, Bool.not_eq_true', Bool.not_eq_false', Bool.not_eq_eq_eq_not, Bool.not_true, Bool.not_false] at h4)
      · (repeat first|refine zG ?_|(refine LS.nilO ?_;intro nq hnq hltq;try refine zU ?_)|(refine MS.new ?_;intro bq hbq hbqf;try refine zU ?_)|(refine MS.nil ?_;intro nq hnq hltq;have hlq:=hltq _ _ (Hp.get_eq _ _ _);clear hltq;try refine zU ?_)|(refine LS.nilQ ?_;try with_reducible intro nq hnq;try refine zU ?_))
        exact ⟨_, H, rfl, by exact zD, by rw [tb_false (fun h => h4 (h.2.1 i (by omega)).1)], rfl⟩
      · (refine zG ?_)
        refine LS.callQ (.arr 8 (bys (pr p m (bas i) u a))) rfl (fun n' hn' => Algebra_product p a m (bas i) u n _ _ _ hp ha (by exact zH) rfl h0 h1 hK hm (bas_by _ _) hu) ?_
        (repeat first|refine zG ?_|(refine LS.nilO ?_;intro nq hnq hltq;try refine zU ?_)|(refine MS.new ?_;intro bq hbq hbqf;try refine zU ?_)|(refine MS.nil ?_;intro nq hnq hltq;have hlq:=hltq _ _ (Hp.get_eq _ _ _);clear hltq;try refine zU ?_)|(refine LS.nilQ ?_;try with_reducible intro nq hnq;try refine zU ?_))
        refine zI ?_ ?_<;>intro h5
        · (refine zG ?_)
          exact ⟨_, H, rfl, by exact zD, by rw [tb_false (fun h => h5 (h.2.1 i (by omega)).2)], rfl⟩
        · (refine zG ?_)
          refine ⟨by omega, by (repeat first | exact trivial | refine And.intro rfl ?_), by exact zD, fun i' hi' => ?_⟩
          by_cases e : i' = i
          · subst e; exact ⟨h4, h5⟩
          · exact hJ i' (by omega)
    · have : i = a := by omega
      subst this
      (refine zG ?_)
      refine RS.call rfl ((Algebra_fault p i m n _ _ _ hp ha (by exact zH) rfl h0 h1 hK hm).mono ?_)
      rintro r H n4 hn4 ⟨⟨rfl, h6⟩ | ⟨⟨b1, o1, l1, c1, rfl⟩, h6⟩, rfl⟩
      · (refine zG ?_)
        exact ⟨_, H, rfl, by exact zD, by rw [tb_true (isAlg_nat.2 ⟨h2, fun i' h => hJ i' h, h6⟩)]; rfl, rfl⟩
      · (refine zG ?_)
        exact ⟨_, H, rfl, by exact zD, by rw [tb_false (fun h => h6 h.2.2)], rfl⟩

end Go.Proofs.YtgnphaopeplfbaaGreatDoor
