/- Contracts of the program's functions. -/
import Derived.Test.YtideblodkkgodaaGreatJam
import Derived.Test.YtideblodkkgodaaGreatJal
import Derived.Test.YtideblodkkgodaaGreatJar
import Derived.Test.YtideblodkkgodaaGreatJas
import Derived.Test.YtideblodkkgodaaGreatJat
set_option linter.unusedSectionVars false
set_option linter.unusedVariables false
set_option linter.unusedSimpArgs false

namespace Go.Proofs.YtideblodkkgodaaGreat

open Go.V

variable [BW]

set_option linter.unusedSimpArgs false

set_option linter.unusedVariables false

set_option maxHeartbeats 4000000

/-- (impl.field).apply -/
def ir128 : Cd := (.seq (.reg [⟨some 3,none,.box 62 (.t 0)⟩,⟨some 5,none,.box 32 (.t 2)⟩,⟨some 6,none,.new 32 [(8,(.int .u8 0))]⟩]) (.seq (.reg [⟨some 10,none,.build 8 [(8,(.int .u8 0))] []⟩,⟨some 7,none,.new 32 [(8,(.int .u8 0))]⟩,⟨none,none,.st 8 (.t 7) (.t 10)⟩]) (.seq (.seq (.reg [⟨some 11,none,.ld (some 8) (.t 5)⟩,⟨some 12,none,.mov (.c (.int .i64 0))⟩]) (.block 0 (.loop (.seq (.reg [⟨some 13,none,.bin .lss (.t 12) (.c (.int .i64 8))⟩]) (.seq (.cond (.t 13) .skip (.exit 0)) (.seq (.block 1 (.seq (.reg [⟨some 14,none,.mov (.t 12)⟩,⟨some 15,none,.ix 8 1 none (.t 11) (.t 12)⟩,⟨some 8,none,.mov (.t 14)⟩,⟨some 9,none,.mov (.t 15)⟩]) (.drw true [8] [⟨some 16,none,.ld (some 2) (.t 3)⟩,⟨some 17,none,.mov (.t 9)⟩,⟨some 18,none,.cv .i64 (.t 17)⟩,⟨some 19,none,.mov (.t 1)⟩,⟨some 20,none,.mov (.t 8)⟩,⟨some 21,none,.ck (.t 19)⟩,⟨some 22,none,.ia 8 8 (.t 21) (.t 20)⟩,⟨some 23,none,.ld (some 8) (.t 22)⟩,⟨some 24,none,.call 30 [(.t 16),(.t 7),(.t 18),(.t 23)]⟩]))) (.reg [⟨some 25,none,.bin .add (.t 12) (.c (.int .i64 1))⟩,⟨some 12,none,.mov (.t 25)⟩]))))))) (.seq (.reg [⟨some 26,none,.ld (some 8) (.t 7)⟩,⟨none,none,.st 8 (.t 6) (.t 26)⟩]) .ret))))

set_option maxRecDepth 100000 in
theorem tr128 : trFn Tryz.prog Tryz.f128 = some (27, ir128, [.cell (some 8) 6]) := by kernel_rfl

theorem field_apply (p n' : Int) (l v : Nat → Int) (b o : Nat) (K : Blk) (H : Hp) (n : Nat) (hp : 2 ≤ p ∧ p ≤ 31) (hb : H.get b = some K) (ho : o + 64 ≤ K.size)
    (hc : ∀ i, i < 64 → K.c (o + i) = .int .u8 (l i)) (hl : isBy 64 l) (hv : isBy 8 v) :
    FnS Tryz.prog 128 [fld p n', ptr b o, .arr 8 (bys v)] H n (fun r H' _ => r = .arr 8 (bys (app p l v)) ∧ H' = H) := by
  refine FnS.of_body Tryz.func128 tr128 (by simp) (fun hf => ?_)
  dsimp only [argEnv]
  unfold ir128
  have hbn : b < n := by
    rcases Nat.lt_or_ge b n with h | h
    · exact h
    · rw [hf b h] at hb; cases hb
  (refine zG ?_)
  refine CS.iter 8 (fun i => [(12, i64 i), (11, .arr 8 (bys v)), (1, ptr b o), (3, ptr n 0), (6, ptr (n + 2) 0), (7, ptr (n + 3) 0)])
    (fun i => (n + 3, ⟨8, bys (apk p l v i), 32⟩) :: (n + 2, ⟨8, bys (fun _ => 0), 32⟩) :: (n + 1, ⟨8, bys v, 32⟩) :: (n, ⟨2, fldC p n', 62⟩) :: H) (fun _ => True) (by (repeat first | exact trivial | refine And.intro rfl ?_))
    (Drops.keepc rfl rfl (fun _ _ => by rw [apk_zero]; rfl) (Drops.keepc rfl rfl (fun _ _ => rfl) (Drops.refl _ _))) trivial ?_
  intro i n1 hi hn _
  (refine zG ?_)
  refine zI ?_ ?_<;>intro h1
  · have hvi := hv i (by omega)
    (repeat first|refine zG ?_|(refine LS.nilO ?_;intro nq hnq hltq;try refine zU ?_)|(refine MS.new ?_;intro bq hbq hbqf;try refine zU ?_)|(refine MS.nil ?_;intro nq hnq hltq;have hlq:=hltq _ _ (Hp.get_eq _ _ _);clear hltq;try refine zU ?_)|(refine LS.nilQ ?_;try with_reducible intro nq hnq;try refine zU ?_))
    refine RS.call rfl ((field_plus p n' (v i) (apk p l v i) (fun x => l (8 * i + x)) (n + 3) 0 ⟨8, bys (apk p l v i), 32⟩ _ _ hp (by exact zH) (by simp) (fun _ _ => by rw [Nat.zero_add]; rfl) (apk_res hp.1 _ _ _ _) (fun x hx => hl _ (by omega)) (by omega)).mono ?_)
    rintro r H' n2 hn2 ⟨rfl, rfl⟩
    simp (disch := omega) only [Hp.set_eq, Hp.set_ne]
    (refine zG ?_)
    exact ⟨by omega, by (repeat first | exact trivial | refine And.intro rfl ?_), Drops.keepc rfl rfl (fun q hq => (splice_all _ _ 8 q hq).trans (by rw [apk_step])) (Drops.refl _ _), trivial⟩
  · have : i = 8 := by omega
    subst this
    (refine zG ?_)
    exact ⟨.arr 8 (bys (app p l v)), H, conc_arr (fun q hq => by simp only [Nat.zero_add]; rfl), by exact zD, rfl, rfl⟩

/-- (*impl.Algebra).product -/
def ir117 : Cd := (.seq (.reg [⟨some 4,none,.box 32 (.t 1)⟩,⟨some 5,none,.box 32 (.t 2)⟩,⟨some 6,none,.new 32 [(8,(.int .u8 0))]⟩]) (.seq (.reg [⟨some 11,none,.mov (.t 0)⟩,⟨some 12,none,.call 136 [(.t 11)]⟩,⟨some 13,none,.build 8 [(8,(.int .u8 0))] []⟩,⟨some 7,none,.new 62 [(2,(.int .i64 0))]⟩,⟨some 8,none,.new 32 [(8,(.int .u8 0))]⟩,⟨none,none,.st 2 (.t 7) (.t 12)⟩,⟨none,none,.st 8 (.t 8) (.t 13)⟩]) (.seq (.seq (.reg [⟨some 14,none,.fa 1 (.t 7)⟩,⟨some 15,none,.ld none (.t 14)⟩,⟨some 16,none,.mov (.c (.int .i64 0))⟩]) (.block 0 (.loop (.seq (.reg [⟨some 17,none,.bin .lss (.t 16) (.t 15)⟩]) (.seq (.cond (.t 17) .skip (.exit 0)) (.seq (.block 1 (.seq (.reg [⟨some 18,none,.mov (.t 16)⟩,⟨some 9,none,.mov (.t 18)⟩]) (.seq (.seq (.reg [⟨some 19,none,.mov (.t 9)⟩,⟨some 20,none,.ia 8 1 (.t 4) (.t 19)⟩,⟨some 21,none,.ld none (.t 20)⟩,⟨some 22,none,.bin .eql (.t 21) (.c (.int .u8 0))⟩]) (.cond (.t 22) (.exit 1) .skip)) (.seq (.reg [⟨some 23,none,.fa 1 (.t 7)⟩,⟨some 24,none,.ld none (.t 23)⟩,⟨some 25,none,.mov (.c (.int .i64 0))⟩]) (.block 2 (.loop (.seq (.reg [⟨some 26,none,.bin .lss (.t 25) (.t 24)⟩]) (.seq (.cond (.t 26) .skip (.exit 2)) (.seq (.block 3 (.seq (.reg [⟨some 27,none,.mov (.t 25)⟩,⟨some 10,none,.mov (.t 27)⟩]) (.drw true [18] [⟨some 28,none,.ld (some 2) (.t 7)⟩,⟨some 29,none,.mov (.t 9)⟩,⟨some 30,none,.ia 8 1 (.t 4) (.t 29)⟩,⟨some 31,none,.ld none (.t 30)⟩,⟨some 32,none,.cv .i64 (.t 31)⟩,⟨some 33,none,.mov (.t 10)⟩,⟨some 34,none,.ia 8 1 (.t 5) (.t 33)⟩,⟨some 35,none,.ld none (.t 34)⟩,⟨some 36,none,.cv .i64 (.t 35)⟩,⟨some 37,none,.bin .mul (.t 32) (.t 36)⟩,⟨some 38,none,.mov (.t 0)⟩,⟨some 39,none,.mov (.t 9)⟩,⟨some 40,none,.mov (.t 10)⟩,⟨some 41,none,.ck (.t 38)⟩,⟨some 42,none,.fa 10 (.t 41)⟩,⟨some 43,none,.ia 8 64 (.t 42) (.t 39)⟩,⟨some 44,none,.ia 8 8 (.t 43) (.t 40)⟩,⟨some 45,none,.ld (some 8) (.t 44)⟩,⟨some 46,none,.call 30 [(.t 28),(.t 8),(.t 37),(.t 45)]⟩]))) (.reg [⟨some 47,none,.bin .add (.t 25) (.c (.int .i64 1))⟩,⟨some 25,none,.mov (.t 47)⟩])))))))))) (.reg [⟨some 48,none,.bin .add (.t 16) (.c (.int .i64 1))⟩,⟨some 16,none,.mov (.t 48)⟩]))))))) (.seq (.reg [⟨some 49,none,.ld (some 8) (.t 8)⟩,⟨none,none,.st 8 (.t 6) (.t 49)⟩]) .ret))))

set_option maxRecDepth 100000 in
theorem tr117 : trFn Tryz.prog Tryz.f117 = some (50, ir117, [.cell (some 8) 6]) := by kernel_rfl

theorem Algebra_product (p : Int) (a : Nat) (m v w : Nat → Int) (b : Nat) (K : Blk) (H : Hp) (n : Nat) (hp : 2 ≤ p ∧ p ≤ 31) (ha : a ≤ 8) (hb : H.get b = some K) (hsz : K.size = 522)
    (h0 : K.c 0 = .int .i64 p) (h1 : K.c 1 = .int .i64 a)
    (hK : ∀ q, q < 512 → K.c (10 + q) = .int .u8 (m q)) (hm : isBy 512 m) (hv : isBy 8 v) (hw : isBy 8 w) :
    FnS Tryz.prog 117 [ptr b 0, .arr 8 (bys v), .arr 8 (bys w)] H n (fun r H' _ => r = .arr 8 (bys (pr p m v w a)) ∧ H' = H) := by
  refine FnS.of_body Tryz.func117 tr117 (by simp) (fun hf => ?_)
  dsimp only [argEnv]
  unfold ir117
  have hbn : b < n := by
    rcases Nat.lt_or_ge b n with h | h
    · exact h
    · rw [hf b h] at hb; cases hb
  (refine zG ?_)
  refine RS.call rfl ((Algebra_field p a b K _ _ (by exact zH) hsz h0 h1 (by omega)).mono ?_)
  rintro r H' n2 hn2 ⟨rfl, rfl⟩
  (refine zG ?_)
  refine CS.iter a (fun i => [(16, i64 i), (15, i64 a), (0, ptr b 0), (4, ptr n 0), (5, ptr (n + 1) 0), (6, ptr (n + 2) 0), (7, ptr n2 0), (8, ptr (n2 + 1) 0)])
    (fun i => (n2 + 1, ⟨8, bys (pk p m v w a i 0), 32⟩) :: (n2, ⟨2, fldC p a, 62⟩) :: (n + 2, ⟨8, bys (fun _ => 0), 32⟩) :: (n + 1, ⟨8, bys w, 32⟩) :: (n, ⟨8, bys v, 32⟩) :: H) (fun _ => True) (by (repeat first | exact trivial | refine And.intro rfl ?_))
    (Drops.keepc rfl rfl (fun _ _ => by rw [pk_zero]; rfl) (Drops.keepc rfl rfl (fun _ _ => rfl) (Drops.keepc rfl rfl (fun _ _ => rfl) (Drops.refl _ _)))) trivial ?_
  intro i n3 hi hn _
  (refine zG ?_)
  refine zI ?_ ?_<;>intro h2
  · have hvi := hv i (by omega)
    (refine zG ?_)
    refine zI ?_ ?_<;>intro h3
    · (refine zG ?_)
      exact ⟨by omega, by (repeat first | exact trivial | refine And.intro rfl ?_), by rw [pk_skip h3]; exact Drops.refl _ _, trivial⟩
    · (refine zG ?_)
      refine CS.iter a (fun j => [(25, i64 j), (24, i64 a), (9, i64 i), (16, i64 i), (15, i64 a), (0, ptr b 0), (4, ptr n 0), (5, ptr (n + 1) 0), (6, ptr (n + 2) 0), (7, ptr n2 0), (8, ptr (n2 + 1) 0)])
        (fun j => (n2 + 1, ⟨8, bys (pk p m v w a i j), 32⟩) :: (n2, ⟨2, fldC p a, 62⟩) :: (n + 2, ⟨8, bys (fun _ => 0), 32⟩) :: (n + 1, ⟨8, bys w, 32⟩) :: (n, ⟨8, bys v, 32⟩) :: H) (fun _ => True) (by (repeat first | exact trivial | refine And.intro rfl ?_))
        (Drops.refl _ _) trivial ?_
      intro j n4 hj hn4 _
      (refine zG ?_)
      refine zI ?_ ?_<;>intro h4
      · have hwj := hw j (by omega)
        have hvw := mulB hvi.1 hvi.2 hwj.1 hwj.2
        (repeat first|refine zG ?_|(refine LS.nilO ?_;intro nq hnq hltq;try refine zU ?_)|(refine MS.new ?_;intro bq hbq hbqf;try refine zU ?_)|(refine MS.nil ?_;intro nq hnq hltq;have hlq:=hltq _ _ (Hp.get_eq _ _ _);clear hltq;try refine zU ?_)|(refine LS.nilQ ?_;try with_reducible intro nq hnq;try refine zU ?_))
        refine RS.call rfl ((field_plus p a (v i * w j) (pk p m v w a i j) (fun x => m (64 * i + 8 * j + x)) (n2 + 1) 0 ⟨8, bys (pk p m v w a i j), 32⟩ _ _ hp (by exact zH) (by simp) (fun _ _ => by rw [Nat.zero_add]; rfl) (pk_res hp.1 _ _ _ _ _ _ _) (fun x hx => hm _ (by omega)) (by omega)).mono ?_)
        rintro r H' n5 hn5 ⟨rfl, rfl⟩
        simp (disch := omega) only [Hp.set_eq, Hp.set_ne]
        (refine zG ?_)
        exact ⟨by omega, by (repeat first | exact trivial | refine And.intro rfl ?_), Drops.keepc rfl rfl (fun q hq => (splice_all _ _ 8 q hq).trans (by rw [pk_step])) (Drops.refl _ _), trivial⟩
      · have : j = a := by omega
        subst this
        (refine zG ?_)
        exact ⟨by omega, by (repeat first | exact trivial | refine And.intro rfl ?_), by rw [pk_row]; exact Drops.refl _ _, trivial⟩
  · have : i = a := by omega
    subst this
    (refine zG ?_)
    exact ⟨.arr 8 (bys (pr p m v w i)), _, conc_arr (fun q hq => by simp only [Nat.zero_add]; rfl), by exact zD, rfl, rfl⟩

/-- (*impl.Coalgebra).isCounit -/
def ir119 : Cd := (.seq (.reg [⟨some 2,none,.mov (.c (.bool false))⟩]) (.seq (.reg [⟨some 8,none,.mov (.t 0)⟩,⟨some 9,none,.call 137 [(.t 8)]⟩,⟨some 3,none,.new 62 [(2,(.int .i64 0))]⟩,⟨none,none,.st 2 (.t 3) (.t 9)⟩]) (.seq (.seq (.reg [⟨some 10,none,.fa 1 (.t 3)⟩,⟨some 11,none,.ld none (.t 10)⟩,⟨some 12,none,.mov (.c (.int .i64 0))⟩]) (.block 0 (.loop (.seq (.reg [⟨some 13,none,.bin .lss (.t 12) (.t 11)⟩]) (.seq (.cond (.t 13) .skip (.exit 0)) (.seq (.block 1 (.seq (.reg [⟨some 14,none,.mov (.t 12)⟩,⟨some 4,none,.mov (.t 14)⟩]) (.seq (.reg [⟨some 15,none,.build 8 [(8,(.int .u8 0))] []⟩,⟨some 16,none,.build 8 [(8,(.int .u8 0))] []⟩,⟨some 5,none,.new 32 [(8,(.int .u8 0))]⟩,⟨some 6,none,.new 32 [(8,(.int .u8 0))]⟩,⟨none,none,.st 8 (.t 5) (.t 15)⟩,⟨none,none,.st 8 (.t 6) (.t 16)⟩]) (.seq (.seq (.reg [⟨some 17,none,.fa 1 (.t 3)⟩,⟨some 18,none,.ld none (.t 17)⟩,⟨some 19,none,.mov (.c (.int .i64 0))⟩]) (.block 2 (.loop (.seq (.reg [⟨some 20,none,.bin .lss (.t 19) (.t 18)⟩]) (.seq (.cond (.t 20) .skip (.exit 2)) (.seq (.block 3 (.seq (.reg [⟨some 21,none,.mov (.t 19)⟩,⟨some 7,none,.mov (.t 21)⟩]) (.seq (.drw true [16] [⟨some 22,none,.ld (some 2) (.t 3)⟩,⟨some 23,none,.mov (.t 0)⟩,⟨some 24,none,.mov (.t 7)⟩,⟨some 25,none,.ck (.t 23)⟩,⟨some 26,none,.fa 2 (.t 25)⟩,⟨some 27,none,.ia 8 1 (.t 26) (.t 24)⟩,⟨some 28,none,.ld none (.t 27)⟩,⟨some 29,none,.cv .i64 (.t 28)⟩,⟨some 30,none,.mov (.t 0)⟩,⟨some 31,none,.mov (.t 4)⟩,⟨some 32,none,.mov (.t 7)⟩,⟨some 33,none,.ck (.t 30)⟩,⟨some 34,none,.fa 10 (.t 33)⟩,⟨some 35,none,.ia 8 64 (.t 34) (.t 31)⟩,⟨some 36,none,.ia 8 8 (.t 35) (.t 32)⟩,⟨some 37,none,.ld (some 8) (.t 36)⟩,⟨some 38,none,.call 30 [(.t 22),(.t 5),(.t 29),(.t 37)]⟩]) (.drw true [17] [⟨some 39,none,.mov (.t 7)⟩,⟨some 40,none,.ld (some 2) (.t 3)⟩,⟨some 41,none,.mov (.t 0)⟩,⟨some 42,none,.ck (.t 41)⟩,⟨some 43,none,.fa 2 (.t 42)⟩,⟨some 44,none,.ld (some 8) (.t 43)⟩,⟨some 45,none,.mov (.t 0)⟩,⟨some 46,none,.mov (.t 4)⟩,⟨some 47,none,.mov (.t 7)⟩,⟨some 48,none,.ck (.t 45)⟩,⟨some 49,none,.fa 10 (.t 48)⟩,⟨some 50,none,.ia 8 64 (.t 49) (.t 46)⟩,⟨some 51,none,.ia 8 8 (.t 50) (.t 47)⟩,⟨some 52,none,.ld (some 8) (.t 51)⟩,⟨some 53,none,.call 55 [(.t 40),(.t 44),(.t 52)]⟩,⟨some 54,none,.cv .u8 (.t 53)⟩,⟨some 55,none,.ia 8 1 (.t 6) (.t 39)⟩,⟨none,none,.st 1 (.t 55) (.t 54)⟩])))) (.reg [⟨some 56,none,.bin .add (.t 19) (.c (.int .i64 1))⟩,⟨some 19,none,.mov (.t 56)⟩]))))))) (.seq (.drw true [] [⟨some 57,none,.ld (some 8) (.t 5)⟩,⟨some 58,none,.mov (.t 4)⟩,⟨some 59,none,.call 33 [(.t 58)]⟩,⟨some 60,none,.eqa true 8 (.t 57) (.t 59)⟩,⟨some 61,none,.mov (.t 60)⟩,⟨some 62,(some (61,false)),.ld (some 8) (.t 6)⟩,⟨some 63,(some (61,false)),.mov (.t 4)⟩,⟨some 64,(some (61,false)),.call 33 [(.t 63)]⟩,⟨some 65,(some (61,false)),.eqa true 8 (.t 62) (.t 64)⟩,⟨some 66,none,.pick (.t 61) (.c (.bool true)) (.t 65)⟩]) (.cond (.t 66) (.seq (.reg [⟨some 2,none,.mov (.c (.bool false))⟩]) .ret) .skip)))))) (.reg [⟨some 67,none,.bin .add (.t 12) (.c (.int .i64 1))⟩,⟨some 12,none,.mov (.t 67)⟩]))))))) (.seq (.reg [⟨some 2,none,.mov (.c (.bool true))⟩]) .ret))))

set_option maxRecDepth 100000 in
theorem tr119 : trFn Tryz.prog Tryz.f119 = some (68, ir119, [.tmp 2]) := by kernel_rfl

theorem Coalgebra_isCounit (p : Int) (a : Nat) (e c : Nat → Int) (b : Nat) (K : Blk) (H : Hp) (n : Nat) (hp : 2 ≤ p ∧ p ≤ 31) (ha : a ≤ 8) (hb : H.get b = some K) (hsz : K.size = 522)
    (h0 : K.c 0 = .int .i64 p) (h1 : K.c 1 = .int .i64 a) (hE : ∀ q, q < 8 → K.c (2 + q) = .int .u8 (e q)) (hK : ∀ q, q < 512 → K.c (10 + q) = .int .u8 (c q)) (he : isBy 8 e) (hc : isBy 512 c) :
    FnS Tryz.prog 119 [ptr b 0] H n (fun r H' _ => r = bl (tb (counits p a e c)) ∧ H' = H) := by
  refine FnS.of_body Tryz.func119 tr119 (by simp) (fun hf => ?_)
  dsimp only [argEnv]
  unfold ir119
  have hbn := getlt hf hb
  (refine zG ?_)
  refine RS.call rfl ((Coalgebra_field p a b K _ _ (by exact zH) hsz h0 h1 (by omega)).mono ?_)
  rintro r H n2 hn2 ⟨rfl, rfl⟩
  (refine zG ?_)
  refine CS.iter a (fun i => [(12, i64 i), (11, i64 a), (3, ptr n2 0), (0, ptr b 0)]) (fun _ => (n2, ⟨2, fldC p a, 62⟩) :: H)
    (fun i => ∀ i' : Nat, i' < i → (∀ q, q < 8 → coL p e c i' a q = bas i' q) ∧ (∀ q, q < 8 → coR p e c i' a q = bas i' q)) (by (repeat first | exact trivial | refine And.intro rfl ?_)) (by exact zD) (fun _ h => by omega) ?_
  intro i n3 hi hn hJ
  (refine zG ?_)
  refine zI ?_ ?_<;>intro h2
  · (refine zG ?_)
    refine CS.iter a (fun j => [(19, i64 j), (18, i64 a), (4, i64 i), (5, ptr n3 0), (6, ptr (n3 + 1) 0), (12, i64 i), (11, i64 a), (3, ptr n2 0), (0, ptr b 0)])
      (fun j => (n3 + 1, ⟨8, bys (coR p e c i j), 32⟩) :: (n3, ⟨8, bys (coL p e c i j), 32⟩) :: (n2, ⟨2, fldC p a, 62⟩) :: H) (fun _ => True) (by (repeat first | exact trivial | refine And.intro rfl ?_))
      (Drops.keepc rfl rfl (fun _ _ => by rw [coR_zero]; rfl) (Drops.keepc rfl rfl (fun _ _ => by rw [coL_zero]; rfl) (Drops.refl _ _))) trivial ?_
    intro j n4 hj hn4 _
    (refine zG ?_)
    refine zI ?_ ?_<;>intro h3
    · have hej := he j (by omega)
      (repeat first|refine zG ?_|(refine LS.nilO ?_;intro nq hnq hltq;try refine zU ?_)|(refine MS.new ?_;intro bq hbq hbqf;try refine zU ?_)|(refine MS.nil ?_;intro nq hnq hltq;have hlq:=hltq _ _ (Hp.get_eq _ _ _);clear hltq;try refine zU ?_)|(refine LS.nilQ ?_;try with_reducible intro nq hnq;try refine zU ?_))
      refine RS.call rfl ((field_plus p a (e j) (coL p e c i j) (fun x => c (64 * i + 8 * j + x)) n3 0 ⟨8, bys (coL p e c i j), 32⟩ _ _ hp (by exact zH) (by simp) (fun _ _ => by rw [Nat.zero_add]; rfl) (coL_res hp.1 _ _ _ _ _) (fun x hx => hc _ (by omega)) (by omega)).mono ?_)
      rintro r H n5 hn5 ⟨rfl, rfl⟩
      simp (disch := omega) only [Hp.set_eq, Hp.set_ne]
      have hd := dotk_res hp.1 e (fun y => c (64 * i + 8 * j + y)) 8
      (refine zG ?_)
      refine LS.callQ (i64 (dotk p e (fun y => c (64 * i + 8 * j + y)) 8)) rfl (fun n' hn' => field_dot p a e (fun y => c (64 * i + 8 * j + y)) _ _ hp he (fun x hx => hc _ (by omega))) ?_
      (repeat first|refine zG ?_|(refine LS.nilO ?_;intro nq hnq hltq;try refine zU ?_)|(refine MS.new ?_;intro bq hbq hbqf;try refine zU ?_)|(refine MS.nil ?_;intro nq hnq hltq;have hlq:=hltq _ _ (Hp.get_eq _ _ _);clear hltq;try refine zU ?_)|(refine LS.nilQ ?_;try with_reducible intro nq hnq;try refine zU ?_))
      exact ⟨by omega, by (repeat first | exact trivial | refine And.intro rfl ?_), Drops.keepc rfl rfl (fun q hq => by simp only [put1, bys]; rw [← coR_step]; split <;> rfl) (Drops.keepc rfl rfl (fun q hq => (splice_all _ _ 8 q hq).trans (by rw [coL_step])) (Drops.refl _ _)), trivial⟩
    · have : j = a := by omega
      subst this
      (refine zG ?_)
      refine LS.callQ (.arr 8 (bys (bas i))) rfl (fun n' hn' => impl_basis i _ _ (by omega)) ?_
      (refine zG ?_)
      refine RS.sp (t := 61) rfl (fun h4 => ?_) (fun h4 => ?_) <;> (try simp only [tb_eq, tb_eqF, decide_eq_true_eq, decide_eq_false_iff_not, beq_iff_eq, bne_iff_ne, ne_eq, Decidable.not_not, beq_eq_false_iff_ne, bne_eq_false_iff_eq, Bool.not_eq_true', Bool.not_eq_false', Bool.not_eq_eq_eq_not, Bool.not_true, Bool.not_false] at h4)
      · (repeat first|refine zG ?_|(refine LS.nilO ?_;intro nq hnq hltq;try refine zU ?_)|(refine MS.new ?_;intro bq hbq hbqf;try refine zU ?_)|(refine MS.nil ?_;intro nq hnq hltq;have hlq:=hltq _ _ (Hp.get_eq _ _ _);clear hltq;try refine zU ?_)|(refine LS.nilQ ?_;try with_reducible intro nq hnq;try refine zU ?_))
        exact ⟨_, H, rfl, by exact zD, by rw [tb_false (fun h => h4 (h i (by omega)).1)], rfl⟩
      · (refine zG ?_)
        refine LS.callQ (.arr 8 (bys (bas i))) rfl (fun n' hn' => impl_basis i _ _ (by omega)) ?_
        (repeat first|refine zG ?_|(refine LS.nilO ?_;intro nq hnq hltq;try refine zU ?_)|(refine MS.new ?_;intro bq hbq hbqf;try refine zU ?_)|(refine MS.nil ?_;intro nq hnq hltq;have hlq:=hltq _ _ (Hp.get_eq _ _ _);clear hltq;try refine zU ?_)|(refine LS.nilQ ?_;try with_reducible intro nq hnq;try refine zU ?_))
        refine zI ?_ ?_<;>intro h5
        · (refine zG ?_)
          exact ⟨_, H, rfl, by exact zD, by rw [tb_false (fun h => h5 (h i (by omega)).2)], rfl⟩
        · (refine zG ?_)
          refine ⟨by omega, by (repeat first | exact trivial | refine And.intro rfl ?_), by exact zD, fun i' hi' => ?_⟩
          by_cases e : i' = i
          · subst e; exact ⟨h4, h5⟩
          · exact hJ i' (by omega)
  · have : i = a := by omega
    subst this
    (refine zG ?_)
    exact ⟨_, H, rfl, by exact zD, by rw [tb_true (show counits p i e c from fun i' h => hJ i' h)], rfl⟩

/-- (*impl.Coalgebra).fault -/
def ir120 : Cd := (.seq (.reg [⟨some 2,none,.mov (.c .nils)⟩]) (.seq (.reg [⟨some 9,none,.mov (.t 0)⟩,⟨some 10,none,.ck (.t 9)⟩,⟨some 11,none,.fa 1 (.t 10)⟩,⟨some 12,none,.ld none (.t 11)⟩,⟨some 3,none,.mov (.t 12)⟩]) (.seq (.seq (.reg [⟨some 13,none,.mov (.t 3)⟩,⟨some 14,none,.mov (.t 3)⟩,⟨some 15,none,.bin .mul (.t 13) (.t 14)⟩,⟨some 16,none,.mov (.t 3)⟩,⟨some 17,none,.bin .mul (.t 15) (.t 16)⟩,⟨some 18,none,.mov (.t 3)⟩,⟨some 19,none,.bin .mul (.t 17) (.t 18)⟩,⟨some 20,none,.mov (.c (.int .i64 0))⟩]) (.block 0 (.loop (.seq (.reg [⟨some 21,none,.bin .lss (.t 20) (.t 19)⟩]) (.seq (.cond (.t 21) .skip (.exit 0)) (.seq (.block 1 (.seq (.reg [⟨some 22,none,.mov (.t 20)⟩,⟨some 4,none,.mov (.t 22)⟩]) (.seq (.drw true [] [⟨some 23,none,.mov (.t 4)⟩,⟨some 24,none,.mov (.t 3)⟩,⟨some 25,none,.mov (.t 3)⟩,⟨some 26,none,.bin .mul (.t 24) (.t 25)⟩,⟨some 27,none,.mov (.t 3)⟩,⟨some 28,none,.bin .mul (.t 26) (.t 27)⟩,⟨some 29,none,.bin .quo (.t 23) (.t 28)⟩,⟨some 30,none,.mov (.t 4)⟩,⟨some 31,none,.mov (.t 3)⟩,⟨some 32,none,.mov (.t 3)⟩,⟨some 33,none,.bin .mul (.t 31) (.t 32)⟩,⟨some 34,none,.bin .quo (.t 30) (.t 33)⟩,⟨some 35,none,.mov (.t 3)⟩,⟨some 36,none,.bin .rem (.t 34) (.t 35)⟩,⟨some 37,none,.mov (.t 4)⟩,⟨some 38,none,.mov (.t 3)⟩,⟨some 39,none,.bin .quo (.t 37) (.t 38)⟩,⟨some 40,none,.mov (.t 3)⟩,⟨some 41,none,.bin .rem (.t 39) (.t 40)⟩,⟨some 42,none,.mov (.t 4)⟩,⟨some 43,none,.mov (.t 3)⟩,⟨some 44,none,.bin .rem (.t 42) (.t 43)⟩,⟨some 5,none,.mov (.t 29)⟩,⟨some 6,none,.mov (.t 36)⟩,⟨some 7,none,.mov (.t 41)⟩,⟨some 8,none,.mov (.t 44)⟩]) (.seq (.reg [⟨some 45,none,.mov (.t 0)⟩,⟨some 46,none,.mov (.t 5)⟩,⟨some 47,none,.mov (.t 6)⟩,⟨some 48,none,.mov (.t 7)⟩,⟨some 49,none,.mov (.t 8)⟩,⟨some 50,none,.call 138 [(.t 45),(.t 46),(.t 47),(.t 48),(.t 49)]⟩]) (.cond (.t 50) (.seq (.reg [⟨some 51,none,.mov (.t 5)⟩,⟨some 52,none,.mov (.t 6)⟩,⟨some 53,none,.mov (.t 7)⟩,⟨some 54,none,.mov (.t 8)⟩,⟨some 55,none,.bsl 2 4 1 [(1,(.int .i64 0))] [(0,1,(.t 51)),(1,1,(.t 52)),(2,1,(.t 53)),(3,1,(.t 54))]⟩,⟨some 2,none,.mov (.t 55)⟩]) .ret) .skip))))) (.reg [⟨some 56,none,.bin .add (.t 20) (.c (.int .i64 1))⟩,⟨some 20,none,.mov (.t 56)⟩]))))))) (.seq (.reg [⟨some 2,none,.mov (.c .nils)⟩]) .ret))))

set_option maxRecDepth 100000 in
theorem tr120 : trFn Tryz.prog Tryz.f120 = some (57, ir120, [.tmp 2]) := by kernel_rfl

theorem Coalgebra_fault (p : Int) (a : Nat) (c : Nat → Int) (b : Nat) (K : Blk) (H : Hp) (n : Nat) (hp : 2 ≤ p ∧ p ≤ 31) (ha1 : 1 ≤ a) (ha : a ≤ 8) (hb : H.get b = some K) (hsz : K.size = 522)
    (h0 : K.c 0 = .int .i64 p) (h1 : K.c 1 = .int .i64 a) (hK : ∀ q, q < 512 → K.c (10 + q) = .int .u8 (c q)) (hc : isBy 512 c) :
    FnS Tryz.prog 120 [ptr b 0] H n (fun r H' _ => ((r = .s .nils ∧ coassoc p a c) ∨ ((∃ b o l c, r = .s (.slc b o l c)) ∧ ¬coassoc p a c)) ∧ H' = H) := by
  refine FnS.of_body Tryz.func120 tr120 (by simp) (fun hf => ?_)
  dsimp only [argEnv]
  unfold ir120
  have hbn := getlt hf hb
  obtain ⟨p2, p3, p4⟩ := pow4 a ha1 ha
  (refine zG ?_)
  refine CS.iter (a * a * a * a) (fun t => [(20, i64 t), (19, i64 ((a : Int) * a * a * a)), (3, i64 a), (0, ptr b 0)]) (fun _ => H)
    (fun t => ∀ t' : Nat, t' < t → cosum1 p c (t' / (a * a * a)) (t' / (a * a) % a) (t' / a % a) (t' % a) a = cosum2 p c (t' / (a * a * a)) (t' / (a * a) % a) (t' / a % a) (t' % a) a) (by (repeat first | exact trivial | refine And.intro rfl ?_)) (Drops.refl _ _) (fun _ h => by omega) ?_
  intro t n1 ht hn hJ
  have ht' : (t : Int) ≤ (a : Int) * a * a * a := by have := Int.ofNat_le.2 ht; simpa only [Int.natCast_mul] using this
  have q1 : 0 ≤ (t : Int) / ((a : Int) * a) ∧ (t : Int) / ((a : Int) * a) ≤ t := ⟨Int.ediv_nonneg (by omega) (by omega), Int.ediv_le_self _ (by omega)⟩
  have q2 : 0 ≤ (t : Int) / (a : Int) ∧ (t : Int) / (a : Int) ≤ t := ⟨Int.ediv_nonneg (by omega) (by omega), Int.ediv_le_self _ (by omega)⟩
  (refine zG ?_)
  refine zI ?_ ?_<;>intro h2
  · have htl : t < a * a * a * a := by have h3 : (t : Int) < ((a * a * a * a : Nat) : Int) := by (simp only [Int.natCast_mul]; exact h2)
                                       exact Int.ofNat_lt.1 h3
    obtain ⟨i1, i2, i3, i4⟩ := idx4 a t ha1 htl
    (repeat first|refine zG ?_|(refine LS.nilO ?_;intro nq hnq hltq;try refine zU ?_)|(refine MS.new ?_;intro bq hbq hbqf;try refine zU ?_)|(refine MS.nil ?_;intro nq hnq hltq;have hlq:=hltq _ _ (Hp.get_eq _ _ _);clear hltq;try refine zU ?_)|(refine LS.nilQ ?_;try with_reducible intro nq hnq;try refine zU ?_))
    refine RS.call rfl ((Coalgebra_isFault p a (t / (a * a * a)) (t / (a * a) % a) (t / a % a) (t % a) _ _ _ _ c b K _ _ hp ha ⟨i1, by push_cast; rfl⟩ ⟨i2, by push_cast; rfl⟩ ⟨i3, by push_cast; rfl⟩ ⟨i4, by push_cast; rfl⟩ (by exact zH) hsz h0 h1 hK hc).mono ?_)
    rintro r H n2 hn2 ⟨rfl, rfl⟩
    (refine zG ?_)
    refine zI ?_ ?_<;>intro h3
    · (refine zG ?_)
      exact ⟨_, H, rfl, by exact zD, .inr ⟨⟨_, _, _, _, rfl⟩, fun h => h3 (h t htl)⟩, rfl⟩
    · (refine zG ?_)
      refine ⟨by omega, by (repeat first | exact trivial | refine And.intro rfl ?_), Drops.refl _ _, fun t' ht' => ?_⟩
      by_cases e : t' = t
      · subst e; exact h3
      · exact hJ t' (by omega)
  · have : t = a * a * a * a := by
      have h3 : ¬(t : Int) < ((a * a * a * a : Nat) : Int) := by (simp only [Int.natCast_mul]; exact h2)
      have : ¬ t < a * a * a * a := fun h => h3 (Int.ofNat_lt.2 h)
      omega
    subst this
    (refine zG ?_)
    exact ⟨_, H, rfl, by exact zD, .inl ⟨rfl, fun t' ht' => hJ t' ht'⟩, rfl⟩

/-- spec.l03Coproduct -/
def ir59 : Cd := (.seq (.reg [⟨some 2,none,.box 38 (.t 0)⟩,⟨some 3,none,.box 32 (.t 1)⟩,⟨some 4,none,.new 34 [(64,(.int .u8 0))]⟩]) (.seq (.reg [⟨some 8,none,.build 64 [(64,(.int .u8 0))] []⟩,⟨some 5,none,.new 34 [(64,(.int .u8 0))]⟩,⟨none,none,.st 64 (.t 5) (.t 8)⟩]) (.seq (.seq (.reg [⟨some 6,none,.mov (.c (.int .i64 0))⟩]) (.block 0 (.loop (.seq (.seq (.reg [⟨some 9,none,.mov (.t 6)⟩,⟨some 10,none,.fa 1 (.t 2)⟩,⟨some 11,none,.ld none (.t 10)⟩,⟨some 12,none,.bin .lss (.t 9) (.t 11)⟩]) (.cond (.t 12) .skip (.exit 0))) (.seq (.block 1 (.seq (.reg [⟨some 7,none,.mov (.c (.int .i64 0))⟩]) (.block 2 (.loop (.seq (.seq (.reg [⟨some 15,none,.mov (.t 7)⟩,⟨some 16,none,.fa 1 (.t 2)⟩,⟨some 17,none,.ld none (.t 16)⟩,⟨some 18,none,.bin .lss (.t 15) (.t 17)⟩,⟨some 19,none,.mov (.t 18)⟩,⟨some 20,(some (19,true)),.mov (.t 6)⟩,⟨some 21,(some (19,true)),.ia 8 1 (.t 3) (.t 20)⟩,⟨some 22,(some (19,true)),.ld none (.t 21)⟩,⟨some 23,(some (19,true)),.bin .neq (.t 22) (.c (.int .u8 0))⟩,⟨some 24,none,.pick (.t 19) (.t 23) (.c (.bool false))⟩]) (.cond (.t 24) .skip (.exit 2))) (.seq (.block 3 (.drw true [18] [⟨some 27,none,.mov (.t 7)⟩,⟨some 28,none,.fa 0 (.t 2)⟩,⟨some 29,none,.ld none (.t 28)⟩,⟨some 30,none,.mov (.t 7)⟩,⟨some 31,none,.ia 8 8 (.t 5) (.t 30)⟩,⟨some 32,none,.ld (some 8) (.t 31)⟩,⟨some 33,none,.mov (.t 6)⟩,⟨some 34,none,.mov (.t 7)⟩,⟨some 35,none,.fa 530 (.t 2)⟩,⟨some 36,none,.ia 8 64 (.t 35) (.t 33)⟩,⟨some 37,none,.ia 8 8 (.t 36) (.t 34)⟩,⟨some 38,none,.ld (some 8) (.t 37)⟩,⟨some 39,none,.mov (.t 6)⟩,⟨some 40,none,.ia 8 1 (.t 3) (.t 39)⟩,⟨some 41,none,.ld none (.t 40)⟩,⟨some 42,none,.cv .i64 (.t 41)⟩,⟨some 43,none,.call 42 [(.t 29),(.t 32),(.t 38),(.t 42)]⟩,⟨some 44,none,.ia 8 8 (.t 5) (.t 27)⟩,⟨none,none,.st 8 (.t 44) (.t 43)⟩])) (.reg [⟨some 25,none,.mov (.t 7)⟩,⟨some 26,none,.bin .add (.t 25) (.c (.int .i64 1))⟩,⟨some 7,none,.mov (.t 26)⟩]))))))) (.reg [⟨some 13,none,.mov (.t 6)⟩,⟨some 14,none,.bin .add (.t 13) (.c (.int .i64 1))⟩,⟨some 6,none,.mov (.t 14)⟩])))))) (.seq (.reg [⟨some 45,none,.ld (some 64) (.t 5)⟩,⟨none,none,.st 64 (.t 4) (.t 45)⟩]) .ret))))

set_option maxRecDepth 100000 in
theorem tr59 : trFn Tryz.prog Tryz.f59 = some (46, ir59, [.cell (some 64) 4]) := by kernel_rfl

theorem spec_l03Coproduct (h : HT) (a : Nat) (v : Nat → Int) (K : Nat → SV) (H : Hp) (n : Nat) (hS : HS h a) (hK : h.At K) (hB : h.By) (hv : isBy 8 v) :
    FnS Tryz.prog 59 [.arr 1106 K, .arr 8 (bys v)] H n (fun r H' _ => r = .arr 64 (bys (cps h.p h.c v 8)) ∧ H' = H) := by
  have hp := hS.hp
  have ha := hS.ha
  have hk0 := hK.p
  have hk1 := hK.n
  rw [hS.hn] at hk1
  have hk5 := hK.c
  refine FnS.of_body Tryz.func59 tr59 (by simp) (fun hf => ?_)
  dsimp only [argEnv]
  unfold ir59
  (refine zG ?_)
  refine CS.iter a (fun i => [(6, i64 i), (2, ptr n 0), (3, ptr (n + 1) 0), (4, ptr (n + 2) 0), (5, ptr (n + 3) 0)])
    (fun i => (n + 3, ⟨64, bys (cps h.p h.c v i), 34⟩) :: (n + 2, ⟨64, bys (fun _ => 0), 34⟩) :: (n + 1, ⟨8, bys v, 32⟩) :: (n, ⟨1106, K, 38⟩) :: H) (fun _ => True) (by (repeat first | exact trivial | refine And.intro rfl ?_))
    (Drops.keepc rfl rfl (fun _ _ => by rw [cps_zero]; rfl) (Drops.keepc rfl rfl (fun _ _ => rfl) (Drops.refl _ _))) trivial ?_
  intro i n3 hi hn _
  (refine zG ?_)
  refine zI ?_ ?_<;>intro h2
  · have hvi := hv i (by omega)
    (refine zG ?_)
    refine CS.iter a (fun j => [(7, i64 j), (6, i64 i), (2, ptr n 0), (3, ptr (n + 1) 0), (4, ptr (n + 2) 0), (5, ptr (n + 3) 0)])
      (fun j => (n + 3, ⟨64, bys (rowsTo (cps h.p h.c v i) (cps h.p h.c v (i + 1)) j), 34⟩) :: (n + 2, ⟨64, bys (fun _ => 0), 34⟩) :: (n + 1, ⟨8, bys v, 32⟩) :: (n, ⟨1106, K, 38⟩) :: H) (fun _ => True) (by (repeat first | exact trivial | refine And.intro rfl ?_))
      (Drops.keepc rfl rfl (fun _ _ => by rw [rowsTo_zero]) (Drops.refl _ _)) trivial ?_
    intro j n4 hj hn4 _
    (refine zG ?_)
    refine RS.sp (t := 19) rfl (fun h3 => ?_) (fun h3 => ?_) <;> (try simp only [tb_eq, tb_eqF, decide_eq_true_eq, decide_eq_false_iff_not, beq_iff_eq, bne_iff_ne, ne_eq, Decidable.not_not, beq_eq_false_iff_ne, bne_eq_false_iff_eq, Bool.not_eq_true', Bool.not_eq_false', Bool.not_eq_eq_eq_not, Bool.not_true, Bool.not_false] at h3)
    · (refine zG ?_)
      refine zI ?_ ?_<;>intro h4
      · have hr : ∀ q, q < 8 → (bys (rowsTo (cps h.p h.c v i) (cps h.p h.c v (i + 1)) j)) (8 * j + q) = .int .u8 (cps h.p h.c v i (8 * j + q)) := fun y hy => by simp only [bys, rowsTo]; rw [if_neg (by omega)]
        (refine zG ?_)
        refine LS.callQ (.arr 8 (bys (pl h.p (fun y => cps h.p h.c v i (8 * j + y)) (v i) (fun y => h.c (64 * i + 8 * j + y))))) rfl (fun n' hn' => spec_l01Add h.p (v i) (fun y => cps h.p h.c v i (8 * j + y)) (fun y => h.c (64 * i + 8 * j + y)) _ _ hp (fun y hy => (cps_res hp.1 h.c v i 64).by hp.2 _ (by omega)) (fun x hx => hB.c _ (by omega)) (by omega)) ?_
        (repeat first|refine zG ?_|(refine LS.nilO ?_;intro nq hnq hltq;try refine zU ?_)|(refine MS.new ?_;intro bq hbq hbqf;try refine zU ?_)|(refine MS.nil ?_;intro nq hnq hltq;have hlq:=hltq _ _ (Hp.get_eq _ _ _);clear hltq;try refine zU ?_)|(refine LS.nilQ ?_;try with_reducible intro nq hnq;try refine zU ?_))
        exact ⟨by omega, by (repeat first | exact trivial | refine And.intro rfl ?_), Drops.keepc rfl rfl (fun q hq => rowsTo_step (fun y hy => cps_row _ _ _ _ _ _) q) (Drops.refl _ _), trivial⟩
      · (refine zG ?_)
        exact ⟨by omega, by (repeat first | exact trivial | refine And.intro rfl ?_), Drops.keepc rfl rfl (fun q hq => by simp only [bys, rowsTo]; rw [cps_same h4]; split <;> rfl) (Drops.refl _ _), trivial⟩
    · have : j = a := by omega
      subst this
      (refine zG ?_)
      exact ⟨by omega, by (repeat first | exact trivial | refine And.intro rfl ?_), Drops.keepc rfl rfl (fun q hq => by simp only [bys]; rw [rowsTo_all (fun q h1 h2 => cps_out hS.cm (by omega) h1 h2) hq]) (Drops.refl _ _), trivial⟩
  · have : i = a := by omega
    subst this
    (refine zG ?_)
    exact ⟨.arr 64 (bys (cps h.p h.c v 8)), H, conc_arr (fun q hq => by simp only [Nat.zero_add, bys]; rw [← cps_end hS.cm ha hq]), by exact zD, rfl, rfl⟩

/-- (*impl.Hopf).has$1 -/
def ir65 : Cd := (.seq (.reg [⟨some 2,none,.box 32 (.t 0)⟩,⟨some 3,none,.mov (.c (.bool false))⟩]) (.seq (.drw true [9] [⟨some 4,none,.ld none (.t 1)⟩,⟨some 5,none,.ck (.t 4)⟩,⟨some 6,none,.fa 0 (.t 5)⟩,⟨some 7,none,.ld none (.t 6)⟩,⟨some 8,none,.ld none (.t 1)⟩,⟨some 9,none,.ck (.t 8)⟩,⟨some 10,none,.fa 1 (.t 9)⟩,⟨some 11,none,.ld none (.t 10)⟩,⟨some 12,none,.ld (some 8) (.t 2)⟩,⟨some 13,none,.call 66 [(.t 7),(.t 11),(.t 12)]⟩,⟨some 14,none,.un .not (.t 13)⟩,⟨some 3,none,.mov (.t 14)⟩]) .ret))

set_option maxRecDepth 100000 in
theorem tr65 : trFn Tryz.prog Tryz.f65 = some (15, ir65, [.tmp 3]) := by kernel_rfl

theorem Hopf_has_1 (h : HT) (b nb : Nat) (w : Nat → Int) (K Kb : Blk) (H : Hp) (n : Nat) (hb : H.get b = some K) (hsz : 1106 ≤ K.size) (hK : h.At K.c) (hw : isBy 8 w)
    (gb : H.get nb = some Kb) (sb : Kb.size = 1) (cb : Kb.c 0 = .ptr b 0) :
    FnS Tryz.prog 65 [.arr 8 (bys w), ptr nb 0] H n (fun r H' _ => r = bl (tb (¬(sz h.p h.n ∧ isVec h.p h.n w))) ∧ H' = H) := by
  have hk0 := hK.p
  have hk1 := hK.n
  refine FnS.of_body Tryz.func65 tr65 (by simp) (fun hf => ?_)
  dsimp only [argEnv]
  unfold ir65
  have hbn := getlt hf hb
  have hbn2 := getlt hf gb
  (repeat first|refine zG ?_|(refine LS.nilO ?_;intro nq hnq hltq;try refine zU ?_)|(refine MS.new ?_;intro bq hbq hbqf;try refine zU ?_)|(refine MS.nil ?_;intro nq hnq hltq;have hlq:=hltq _ _ (Hp.get_eq _ _ _);clear hltq;try refine zU ?_)|(refine LS.nilQ ?_;try with_reducible intro nq hnq;try refine zU ?_))
  refine RS.call rfl ((impl_IsVector h.p h.n w _ _ hw).mono ?_)
  rintro r H' n2 hn2 ⟨rfl, rfl⟩
  (repeat first|refine zG ?_|(refine LS.nilO ?_;intro nq hnq hltq;try refine zU ?_)|(refine MS.new ?_;intro bq hbq hbqf;try refine zU ?_)|(refine MS.nil ?_;intro nq hnq hltq;have hlq:=hltq _ _ (Hp.get_eq _ _ _);clear hltq;try refine zU ?_)|(refine LS.nilQ ?_;try with_reducible intro nq hnq;try refine zU ?_))
  exact ⟨_, H, rfl, by exact zD, by rw [tb_not], rfl⟩

end Go.Proofs.YtideblodkkgodaaGreat
