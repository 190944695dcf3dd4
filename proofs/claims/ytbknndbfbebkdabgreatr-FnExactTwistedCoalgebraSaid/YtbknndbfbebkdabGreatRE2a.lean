/- Contracts of the program's functions. -/
import Derived.Test.YtbknndbfbebkdabGreatRR
import Derived.Test.YtbknndbfbebkdabGreatRLW
import Derived.Test.YtbknndbfbebkdabGreatRE1a
import Derived.Test.YtbknndbfbebkdabGreatRE1b
namespace Go.Proofs.YtbknndbfbebkdabGreatR
open Go.V
set_option linter.unusedSimpArgs false
set_option linter.unusedVariables false
set_option maxHeartbeats 4000000
/-- impl.isLinear -/
def ir59 : Cd := (.seq (.reg [⟨some 8,none,.mov (.c (.bool false))⟩]) (.seq (.seq (.reg [⟨some 11,none,.mov (.t 3)⟩,⟨some 12,none,.mov (.c (.int .i64 0))⟩]) (.block 0 (.loop (.seq (.reg [⟨some 13,none,.bin .lss (.t 12) (.c (.int .i64 8))⟩]) (.seq (.cond (.t 13) .skip (.exit 0)) (.seq (.block 1 (.seq (.mix [⟨some 14,none,.mov (.t 12)⟩,⟨some 15,none,.ck (.t 11)⟩,⟨some 16,none,.ia 8 8 (.t 15) (.t 12)⟩,⟨some 17,none,.ld (some 8) (.t 16)⟩] [⟨some 10,none,.new 27 [(8,(.int .u8 0))]⟩,⟨some 9,none,.mov (.t 14)⟩,⟨none,none,.st 8 (.t 10) (.t 17)⟩]) (.seq (.reg [⟨some 18,none,.mov (.t 0)⟩,⟨some 19,none,.mov (.t 2)⟩,⟨some 20,none,.ld (some 8) (.t 10)⟩,⟨some 21,none,.call 88 [(.t 18),(.t 19),(.t 20)]⟩,⟨some 22,none,.un .not (.t 21)⟩,⟨some 23,none,.mov (.t 22)⟩,⟨some 24,(some (23,false)),.mov (.t 9)⟩,⟨some 25,(some (23,false)),.mov (.t 1)⟩,⟨some 26,(some (23,false)),.bin .geq (.t 24) (.t 25)⟩,⟨some 27,(some (23,false)),.mov (.t 26)⟩,⟨some 28,(some (27,true)),.ld (some 8) (.t 10)⟩,⟨some 29,(some (27,true)),.build 8 [(8,(.int .u8 0))] []⟩,⟨some 30,(some (27,true)),.eqa true 8 (.t 28) (.t 29)⟩,⟨some 31,(some (23,false)),.pick (.t 27) (.t 30) (.c (.bool false))⟩,⟨some 32,none,.pick (.t 23) (.c (.bool true)) (.t 31)⟩]) (.cond (.t 32) (.seq (.reg [⟨some 8,none,.mov (.c (.bool false))⟩]) .ret) .skip)))) (.reg [⟨some 33,none,.bin .add (.t 12) (.c (.int .i64 1))⟩,⟨some 12,none,.mov (.t 33)⟩]))))))) (.seq (.reg [⟨some 8,none,.mov (.c (.bool true))⟩]) .ret)))
set_option maxRecDepth 100000 in
theorem tr59 : trFn Tryz.prog Tryz.f59 = some (34, ir59, [.tmp 8]) := by kernel_rfl
theorem impl_isLinear (p n' s : Int) (l : Nat → Int) (b o : Nat) (K : Blk) (H : Hp) (n : Nat) (hb : H.get b = some K) (ho : o + 64 ≤ K.size) (hc : ∀ i, i < 64 → K.c (o + i) = .int .u8 (l i)) (hl : isBy 64 l) :
    FnS Tryz.prog 59 [i64 p, i64 n', i64 s, ptr b o] H n (fun r H' _ => r = bl (tb (sz p s ∧ isLin p n' s l)) ∧ H' = H) := by
  refine FnS.of_body Tryz.func59 tr59 (by simp) (fun hf => ?_)
  dsimp only [argEnv]
  unfold ir59
  (repeat first|refine zG ?_|(refine LS.nilO ?_;intro nq hnq hltq;try refine zU ?_)|(refine MS.new ?_;intro bq hbq hbqf;try refine zU ?_)|(refine MS.nil ?_;intro nq hnq hltq;have hlq:=hltq _ _ (Hp.get_eq _ _ _);clear hltq;try refine zU ?_)|(refine LS.nilQ ?_;try with_reducible intro nq hnq;try refine zU ?_))
  refine CS.iter 8 (fun i => [(12, i64 i), (11, ptr b o), (0, i64 p), (1, i64 n'), (2, i64 s)]) (fun _ => H) (fun i => (1 ≤ i → sz p s) ∧ ∀ j : Nat, j < i → isVec p s (fun x => l (8 * j + x)) ∧ (n' ≤ j → ∀ x, x < 8 → l (8 * j + x) = 0)) (by (repeat first | exact trivial | refine And.intro rfl ?_)) (Drops.refl _ _) ⟨by omega, fun j hj => by omega⟩ ?_
  intro i n1 hi hn hJ
  (repeat first|refine zG ?_|(refine LS.nilO ?_;intro nq hnq hltq;try refine zU ?_)|(refine MS.new ?_;intro bq hbq hbqf;try refine zU ?_)|(refine MS.nil ?_;intro nq hnq hltq;have hlq:=hltq _ _ (Hp.get_eq _ _ _);clear hltq;try refine zU ?_)|(refine LS.nilQ ?_;try with_reducible intro nq hnq;try refine zU ?_))
  refine zI ?_ ?_<;>intro h1
  · (repeat first|refine zG ?_|(refine LS.nilO ?_;intro nq hnq hltq;try refine zU ?_)|(refine MS.new ?_;intro bq hbq hbqf;try refine zU ?_)|(refine MS.nil ?_;intro nq hnq hltq;have hlq:=hltq _ _ (Hp.get_eq _ _ _);clear hltq;try refine zU ?_)|(refine LS.nilQ ?_;try with_reducible intro nq hnq;try refine zU ?_))
    refine RS.call rfl ((impl_IsVector p s (fun x => l (8 * i + x)) _ _ (fun x hx => hl _ (by omega))).mono ?_)
    rintro r H' n2 hn2 ⟨rfl, rfl⟩
    (repeat first|refine zG ?_|(refine LS.nilO ?_;intro nq hnq hltq;try refine zU ?_)|(refine MS.new ?_;intro bq hbq hbqf;try refine zU ?_)|(refine MS.nil ?_;intro nq hnq hltq;have hlq:=hltq _ _ (Hp.get_eq _ _ _);clear hltq;try refine zU ?_)|(refine LS.nilQ ?_;try with_reducible intro nq hnq;try refine zU ?_))
    refine RS.sp (t := 23) rfl (fun h2 => ?_) (fun h2 => ?_) <;> (try simp only [tb_eq, tb_eqF, decide_eq_true_eq, decide_eq_false_iff_not, beq_iff_eq, bne_iff_ne, ne_eq, Decidable.not_not, beq_eq_false_iff_ne, bne_eq_false_iff_eq, Bool.not_eq_true', Bool.not_eq_false', Bool.not_eq_eq_eq_not, Bool.not_true, Bool.not_false] at h2)
    · (repeat first|refine zG ?_|(refine LS.nilO ?_;intro nq hnq hltq;try refine zU ?_)|(refine MS.new ?_;intro bq hbq hbqf;try refine zU ?_)|(refine MS.nil ?_;intro nq hnq hltq;have hlq:=hltq _ _ (Hp.get_eq _ _ _);clear hltq;try refine zU ?_)|(refine LS.nilQ ?_;try with_reducible intro nq hnq;try refine zU ?_))
      exact ⟨_, H, rfl, by exact zD, by rw [tb_false (fun h => h2 ⟨h.1, (h.2 i (by omega)).1⟩)], rfl⟩
    · (repeat first|refine zG ?_|(refine LS.nilO ?_;intro nq hnq hltq;try refine zU ?_)|(refine MS.new ?_;intro bq hbq hbqf;try refine zU ?_)|(refine MS.nil ?_;intro nq hnq hltq;have hlq:=hltq _ _ (Hp.get_eq _ _ _);clear hltq;try refine zU ?_)|(refine LS.nilQ ?_;try with_reducible intro nq hnq;try refine zU ?_))
      refine RS.sp (t := 27) rfl (fun h3 => ?_) (fun h3 => ?_) <;> (try simp only [tb_eq, tb_eqF, decide_eq_true_eq, decide_eq_false_iff_not, beq_iff_eq, bne_iff_ne, ne_eq, Decidable.not_not, beq_eq_false_iff_ne, bne_eq_false_iff_eq, Bool.not_eq_true', Bool.not_eq_false', Bool.not_eq_eq_eq_not, Bool.not_true, Bool.not_false] at h3)
      · (repeat first|refine zG ?_|(refine LS.nilO ?_;intro nq hnq hltq;try refine zU ?_)|(refine MS.new ?_;intro bq hbq hbqf;try refine zU ?_)|(refine MS.nil ?_;intro nq hnq hltq;have hlq:=hltq _ _ (Hp.get_eq _ _ _);clear hltq;try refine zU ?_)|(refine LS.nilQ ?_;try with_reducible intro nq hnq;try refine zU ?_))
        refine zI ?_ ?_<;>intro h4
        · (repeat first|refine zG ?_|(refine LS.nilO ?_;intro nq hnq hltq;try refine zU ?_)|(refine MS.new ?_;intro bq hbq hbqf;try refine zU ?_)|(refine MS.nil ?_;intro nq hnq hltq;have hlq:=hltq _ _ (Hp.get_eq _ _ _);clear hltq;try refine zU ?_)|(refine LS.nilQ ?_;try with_reducible intro nq hnq;try refine zU ?_))
          exact ⟨_, H, rfl, by exact zD, by rw [tb_false (fun h => h4 (fun x hx => (h.2 i (by omega)).2 (by omega) x hx))], rfl⟩
        · (repeat first|refine zG ?_|(refine LS.nilO ?_;intro nq hnq hltq;try refine zU ?_)|(refine MS.new ?_;intro bq hbq hbqf;try refine zU ?_)|(refine MS.nil ?_;intro nq hnq hltq;have hlq:=hltq _ _ (Hp.get_eq _ _ _);clear hltq;try refine zU ?_)|(refine LS.nilQ ?_;try with_reducible intro nq hnq;try refine zU ?_))
          refine ⟨by omega, by (repeat first | exact trivial | refine And.intro rfl ?_), by exact zD, fun _ => h2.1, fun j hj => ?_⟩
          by_cases e : j < i
          · exact hJ.2 j e
          · have : j = i := by omega
            subst this; exact ⟨h2.2, fun _ => h4⟩
      · (repeat first|refine zG ?_|(refine LS.nilO ?_;intro nq hnq hltq;try refine zU ?_)|(refine MS.new ?_;intro bq hbq hbqf;try refine zU ?_)|(refine MS.nil ?_;intro nq hnq hltq;have hlq:=hltq _ _ (Hp.get_eq _ _ _);clear hltq;try refine zU ?_)|(refine LS.nilQ ?_;try with_reducible intro nq hnq;try refine zU ?_))
        refine ⟨by omega, by (repeat first | exact trivial | refine And.intro rfl ?_), by exact zD, fun _ => h2.1, fun j hj => ?_⟩
        by_cases e : j < i
        · exact hJ.2 j e
        · have : j = i := by omega
          subst this; exact ⟨h2.2, fun h => by omega⟩
  · (repeat first|refine zG ?_|(refine LS.nilO ?_;intro nq hnq hltq;try refine zU ?_)|(refine MS.new ?_;intro bq hbq hbqf;try refine zU ?_)|(refine MS.nil ?_;intro nq hnq hltq;have hlq:=hltq _ _ (Hp.get_eq _ _ _);clear hltq;try refine zU ?_)|(refine LS.nilQ ?_;try with_reducible intro nq hnq;try refine zU ?_))
    exact ⟨_, H, rfl, by exact zD, by rw [tb_true (show sz p s ∧ isLin p n' s l from ⟨hJ.1 (by omega), fun j hj => hJ.2 j (by omega)⟩)], rfl⟩
/-- (*impl.Algebra).product -/
def ir124 : Cd := (.seq (.reg [⟨some 4,none,.box 27 (.t 1)⟩,⟨some 5,none,.box 27 (.t 2)⟩,⟨some 6,none,.new 27 [(8,(.int .u8 0))]⟩]) (.seq (.reg [⟨some 11,none,.mov (.t 0)⟩,⟨some 12,none,.call 137 [(.t 11)]⟩,⟨some 13,none,.build 8 [(8,(.int .u8 0))] []⟩,⟨some 7,none,.new 85 [(2,(.int .i64 0))]⟩,⟨some 8,none,.new 27 [(8,(.int .u8 0))]⟩,⟨none,none,.st 2 (.t 7) (.t 12)⟩,⟨none,none,.st 8 (.t 8) (.t 13)⟩]) (.seq (.seq (.reg [⟨some 14,none,.fa 1 (.t 7)⟩,⟨some 15,none,.ld none (.t 14)⟩,⟨some 16,none,.mov (.c (.int .i64 0))⟩]) (.block 0 (.loop (.seq (.reg [⟨some 17,none,.bin .lss (.t 16) (.t 15)⟩]) (.seq (.cond (.t 17) .skip (.exit 0)) (.seq (.block 1 (.seq (.reg [⟨some 18,none,.mov (.t 16)⟩,⟨some 9,none,.mov (.t 18)⟩]) (.seq (.seq (.reg [⟨some 19,none,.mov (.t 9)⟩,⟨some 20,none,.ia 8 1 (.t 4) (.t 19)⟩,⟨some 21,none,.ld none (.t 20)⟩,⟨some 22,none,.bin .eql (.t 21) (.c (.int .u8 0))⟩]) (.cond (.t 22) (.exit 1) .skip)) (.seq (.reg [⟨some 23,none,.fa 1 (.t 7)⟩,⟨some 24,none,.ld none (.t 23)⟩,⟨some 25,none,.mov (.c (.int .i64 0))⟩]) (.block 2 (.loop (.seq (.reg [⟨some 26,none,.bin .lss (.t 25) (.t 24)⟩]) (.seq (.cond (.t 26) .skip (.exit 2)) (.seq (.block 3 (.seq (.reg [⟨some 27,none,.mov (.t 25)⟩,⟨some 10,none,.mov (.t 27)⟩]) (.drw true [18] [⟨some 28,none,.ld (some 2) (.t 7)⟩,⟨some 29,none,.mov (.t 9)⟩,⟨some 30,none,.ia 8 1 (.t 4) (.t 29)⟩,⟨some 31,none,.ld none (.t 30)⟩,⟨some 32,none,.cv .i64 (.t 31)⟩,⟨some 33,none,.mov (.t 10)⟩,⟨some 34,none,.ia 8 1 (.t 5) (.t 33)⟩,⟨some 35,none,.ld none (.t 34)⟩,⟨some 36,none,.cv .i64 (.t 35)⟩,⟨some 37,none,.bin .mul (.t 32) (.t 36)⟩,⟨some 38,none,.mov (.t 0)⟩,⟨some 39,none,.mov (.t 9)⟩,⟨some 40,none,.mov (.t 10)⟩,⟨some 41,none,.ck (.t 38)⟩,⟨some 42,none,.fa 10 (.t 41)⟩,⟨some 43,none,.ia 8 64 (.t 42) (.t 39)⟩,⟨some 44,none,.ia 8 8 (.t 43) (.t 40)⟩,⟨some 45,none,.ld (some 8) (.t 44)⟩,⟨some 46,none,.call 50 [(.t 28),(.t 8),(.t 37),(.t 45)]⟩]))) (.reg [⟨some 47,none,.bin .add (.t 25) (.c (.int .i64 1))⟩,⟨some 25,none,.mov (.t 47)⟩])))))))))) (.reg [⟨some 48,none,.bin .add (.t 16) (.c (.int .i64 1))⟩,⟨some 16,none,.mov (.t 48)⟩]))))))) (.seq (.reg [⟨some 49,none,.ld (some 8) (.t 8)⟩,⟨none,none,.st 8 (.t 6) (.t 49)⟩]) .ret))))
set_option maxRecDepth 100000 in
theorem tr124 : trFn Tryz.prog Tryz.f124 = some (50, ir124, [.cell (some 8) 6]) := by kernel_rfl
theorem Algebra_product (p : Int) (a : Nat) (m v w : Nat → Int) (b : Nat) (K : Blk) (H : Hp) (n : Nat) (hp : 2 ≤ p ∧ p ≤ 31) (ha : a ≤ 8) (hb : H.get b = some K) (hsz : K.size = 522)
    (h0 : K.c 0 = .int .i64 p) (h1 : K.c 1 = .int .i64 a)
    (hK : ∀ q, q < 512 → K.c (10 + q) = .int .u8 (m q)) (hm : isBy 512 m) (hv : isBy 8 v) (hw : isBy 8 w) :
    FnS Tryz.prog 124 [ptr b 0, .arr 8 (bys v), .arr 8 (bys w)] H n (fun r H' _ => r = .arr 8 (bys (pr p m v w a)) ∧ H' = H) := by
  refine FnS.of_body Tryz.func124 tr124 (by simp) (fun hf => ?_)
  dsimp only [argEnv]
  unfold ir124
  have hbn : b < n := by
    rcases Nat.lt_or_ge b n with h | h
    · exact h
    · rw [hf b h] at hb; cases hb
  (repeat first|refine zG ?_|(refine LS.nilO ?_;intro nq hnq hltq;try refine zU ?_)|(refine MS.new ?_;intro bq hbq hbqf;try refine zU ?_)|(refine MS.nil ?_;intro nq hnq hltq;have hlq:=hltq _ _ (Hp.get_eq _ _ _);clear hltq;try refine zU ?_)|(refine LS.nilQ ?_;try with_reducible intro nq hnq;try refine zU ?_))
  refine RS.call rfl ((Algebra_field p a b K _ _ (by exact zH) hsz h0 h1 (by omega)).mono ?_)
  rintro r H' n2 hn2 ⟨rfl, rfl⟩
  (repeat first|refine zG ?_|(refine LS.nilO ?_;intro nq hnq hltq;try refine zU ?_)|(refine MS.new ?_;intro bq hbq hbqf;try refine zU ?_)|(refine MS.nil ?_;intro nq hnq hltq;have hlq:=hltq _ _ (Hp.get_eq _ _ _);clear hltq;try refine zU ?_)|(refine LS.nilQ ?_;try with_reducible intro nq hnq;try refine zU ?_))
  refine CS.iter a (fun i => [(16, i64 i), (15, i64 a), (0, ptr b 0), (4, ptr n 0), (5, ptr (n + 1) 0), (6, ptr (n + 2) 0), (7, ptr n2 0), (8, ptr (n2 + 1) 0)])
    (fun i => (n2 + 1, ⟨8, bys (pk p m v w a i 0), 27⟩) :: (n2, ⟨2, fldC p a, 85⟩) :: (n + 2, ⟨8, bys (fun _ => 0), 27⟩) :: (n + 1, ⟨8, bys w, 27⟩) :: (n, ⟨8, bys v, 27⟩) :: H) (fun _ => True) (by (repeat first | exact trivial | refine And.intro rfl ?_))
    (Drops.keepc rfl rfl (fun _ _ => by rw [pk_zero]; rfl) (Drops.keepc rfl rfl (fun _ _ => rfl) (Drops.keepc rfl rfl (fun _ _ => rfl) (Drops.refl _ _)))) trivial ?_
  intro i n3 hi hn _
  (repeat first|refine zG ?_|(refine LS.nilO ?_;intro nq hnq hltq;try refine zU ?_)|(refine MS.new ?_;intro bq hbq hbqf;try refine zU ?_)|(refine MS.nil ?_;intro nq hnq hltq;have hlq:=hltq _ _ (Hp.get_eq _ _ _);clear hltq;try refine zU ?_)|(refine LS.nilQ ?_;try with_reducible intro nq hnq;try refine zU ?_))
  refine zI ?_ ?_<;>intro h2
  · have hvi := hv i (by omega)
    (repeat first|refine zG ?_|(refine LS.nilO ?_;intro nq hnq hltq;try refine zU ?_)|(refine MS.new ?_;intro bq hbq hbqf;try refine zU ?_)|(refine MS.nil ?_;intro nq hnq hltq;have hlq:=hltq _ _ (Hp.get_eq _ _ _);clear hltq;try refine zU ?_)|(refine LS.nilQ ?_;try with_reducible intro nq hnq;try refine zU ?_))
    refine zI ?_ ?_<;>intro h3
    · (repeat first|refine zG ?_|(refine LS.nilO ?_;intro nq hnq hltq;try refine zU ?_)|(refine MS.new ?_;intro bq hbq hbqf;try refine zU ?_)|(refine MS.nil ?_;intro nq hnq hltq;have hlq:=hltq _ _ (Hp.get_eq _ _ _);clear hltq;try refine zU ?_)|(refine LS.nilQ ?_;try with_reducible intro nq hnq;try refine zU ?_))
      exact ⟨by omega, by (repeat first | exact trivial | refine And.intro rfl ?_), by rw [pk_skip h3]; exact Drops.refl _ _, trivial⟩
    · (repeat first|refine zG ?_|(refine LS.nilO ?_;intro nq hnq hltq;try refine zU ?_)|(refine MS.new ?_;intro bq hbq hbqf;try refine zU ?_)|(refine MS.nil ?_;intro nq hnq hltq;have hlq:=hltq _ _ (Hp.get_eq _ _ _);clear hltq;try refine zU ?_)|(refine LS.nilQ ?_;try with_reducible intro nq hnq;try refine zU ?_))
      refine CS.iter a (fun j => [(25, i64 j), (24, i64 a), (9, i64 i), (16, i64 i), (15, i64 a), (0, ptr b 0), (4, ptr n 0), (5, ptr (n + 1) 0), (6, ptr (n + 2) 0), (7, ptr n2 0), (8, ptr (n2 + 1) 0)])
        (fun j => (n2 + 1, ⟨8, bys (pk p m v w a i j), 27⟩) :: (n2, ⟨2, fldC p a, 85⟩) :: (n + 2, ⟨8, bys (fun _ => 0), 27⟩) :: (n + 1, ⟨8, bys w, 27⟩) :: (n, ⟨8, bys v, 27⟩) :: H) (fun _ => True) (by (repeat first | exact trivial | refine And.intro rfl ?_))
        (Drops.refl _ _) trivial ?_
      intro j n4 hj hn4 _
      (repeat first|refine zG ?_|(refine LS.nilO ?_;intro nq hnq hltq;try refine zU ?_)|(refine MS.new ?_;intro bq hbq hbqf;try refine zU ?_)|(refine MS.nil ?_;intro nq hnq hltq;have hlq:=hltq _ _ (Hp.get_eq _ _ _);clear hltq;try refine zU ?_)|(refine LS.nilQ ?_;try with_reducible intro nq hnq;try refine zU ?_))
      refine zI ?_ ?_<;>intro h4
      · have hwj := hw j (by omega)
        have hvw := mulB hvi.1 hvi.2 hwj.1 hwj.2
        (repeat first|refine zG ?_|(refine LS.nilO ?_;intro nq hnq hltq;try refine zU ?_)|(refine MS.new ?_;intro bq hbq hbqf;try refine zU ?_)|(refine MS.nil ?_;intro nq hnq hltq;have hlq:=hltq _ _ (Hp.get_eq _ _ _);clear hltq;try refine zU ?_)|(refine LS.nilQ ?_;try with_reducible intro nq hnq;try refine zU ?_))
        refine RS.call rfl ((field_plus p a (v i * w j) (pk p m v w a i j) (fun x => m (64 * i + 8 * j + x)) (n2 + 1) 0 ⟨8, bys (pk p m v w a i j), 27⟩ _ _ hp (by exact zH) (by simp) (fun _ _ => by rw [Nat.zero_add]; rfl) (pk_res hp.1 _ _ _ _ _ _ _) (fun x hx => hm _ (by omega)) (by omega)).mono ?_)
        rintro r H' n5 hn5 ⟨rfl, rfl⟩
        simp (disch := omega) only [Hp.set_eq, Hp.set_ne]
        (repeat first|refine zG ?_|(refine LS.nilO ?_;intro nq hnq hltq;try refine zU ?_)|(refine MS.new ?_;intro bq hbq hbqf;try refine zU ?_)|(refine MS.nil ?_;intro nq hnq hltq;have hlq:=hltq _ _ (Hp.get_eq _ _ _);clear hltq;try refine zU ?_)|(refine LS.nilQ ?_;try with_reducible intro nq hnq;try refine zU ?_))
        exact ⟨by omega, by (repeat first | exact trivial | refine And.intro rfl ?_), Drops.keepc rfl rfl (fun q hq => (splice_all _ _ 8 q hq).trans (by rw [pk_step])) (Drops.refl _ _), trivial⟩
      · have : j = a := by omega
        subst this
        (repeat first|refine zG ?_|(refine LS.nilO ?_;intro nq hnq hltq;try refine zU ?_)|(refine MS.new ?_;intro bq hbq hbqf;try refine zU ?_)|(refine MS.nil ?_;intro nq hnq hltq;have hlq:=hltq _ _ (Hp.get_eq _ _ _);clear hltq;try refine zU ?_)|(refine LS.nilQ ?_;try with_reducible intro nq hnq;try refine zU ?_))
        exact ⟨by omega, by (repeat first | exact trivial | refine And.intro rfl ?_), by rw [pk_row]; exact Drops.refl _ _, trivial⟩
  · have : i = a := by omega
    subst this
    (repeat first|refine zG ?_|(refine LS.nilO ?_;intro nq hnq hltq;try refine zU ?_)|(refine MS.new ?_;intro bq hbq hbqf;try refine zU ?_)|(refine MS.nil ?_;intro nq hnq hltq;have hlq:=hltq _ _ (Hp.get_eq _ _ _);clear hltq;try refine zU ?_)|(refine LS.nilQ ?_;try with_reducible intro nq hnq;try refine zU ?_))
    exact ⟨.arr 8 (bys (pr p m v w i)), _, conc_arr (fun q hq => by simp only [Nat.zero_add]; rfl), by exact zD, rfl, rfl⟩
/-- spec.l03Coproduct -/
def ir94 : Cd := (.seq (.reg [⟨some 2,none,.box 35 (.t 0)⟩,⟨some 3,none,.box 27 (.t 1)⟩,⟨some 4,none,.new 29 [(64,(.int .u8 0))]⟩]) (.seq (.reg [⟨some 8,none,.build 64 [(64,(.int .u8 0))] []⟩,⟨some 5,none,.new 29 [(64,(.int .u8 0))]⟩,⟨none,none,.st 64 (.t 5) (.t 8)⟩]) (.seq (.seq (.reg [⟨some 6,none,.mov (.c (.int .i64 0))⟩]) (.block 0 (.loop (.seq (.seq (.reg [⟨some 9,none,.mov (.t 6)⟩,⟨some 10,none,.fa 1 (.t 2)⟩,⟨some 11,none,.ld none (.t 10)⟩,⟨some 12,none,.bin .lss (.t 9) (.t 11)⟩]) (.cond (.t 12) .skip (.exit 0))) (.seq (.block 1 (.seq (.reg [⟨some 7,none,.mov (.c (.int .i64 0))⟩]) (.block 2 (.loop (.seq (.seq (.reg [⟨some 15,none,.mov (.t 7)⟩,⟨some 16,none,.fa 1 (.t 2)⟩,⟨some 17,none,.ld none (.t 16)⟩,⟨some 18,none,.bin .lss (.t 15) (.t 17)⟩,⟨some 19,none,.mov (.t 18)⟩,⟨some 20,(some (19,true)),.mov (.t 6)⟩,⟨some 21,(some (19,true)),.ia 8 1 (.t 3) (.t 20)⟩,⟨some 22,(some (19,true)),.ld none (.t 21)⟩,⟨some 23,(some (19,true)),.bin .neq (.t 22) (.c (.int .u8 0))⟩,⟨some 24,none,.pick (.t 19) (.t 23) (.c (.bool false))⟩]) (.cond (.t 24) .skip (.exit 2))) (.seq (.block 3 (.drw true [18] [⟨some 27,none,.mov (.t 7)⟩,⟨some 28,none,.fa 0 (.t 2)⟩,⟨some 29,none,.ld none (.t 28)⟩,⟨some 30,none,.mov (.t 7)⟩,⟨some 31,none,.ia 8 8 (.t 5) (.t 30)⟩,⟨some 32,none,.ld (some 8) (.t 31)⟩,⟨some 33,none,.mov (.t 6)⟩,⟨some 34,none,.mov (.t 7)⟩,⟨some 35,none,.fa 530 (.t 2)⟩,⟨some 36,none,.ia 8 64 (.t 35) (.t 33)⟩,⟨some 37,none,.ia 8 8 (.t 36) (.t 34)⟩,⟨some 38,none,.ld (some 8) (.t 37)⟩,⟨some 39,none,.mov (.t 6)⟩,⟨some 40,none,.ia 8 1 (.t 3) (.t 39)⟩,⟨some 41,none,.ld none (.t 40)⟩,⟨some 42,none,.cv .i64 (.t 41)⟩,⟨some 43,none,.call 47 [(.t 29),(.t 32),(.t 38),(.t 42)]⟩,⟨some 44,none,.ia 8 8 (.t 5) (.t 27)⟩,⟨none,none,.st 8 (.t 44) (.t 43)⟩])) (.reg [⟨some 25,none,.mov (.t 7)⟩,⟨some 26,none,.bin .add (.t 25) (.c (.int .i64 1))⟩,⟨some 7,none,.mov (.t 26)⟩]))))))) (.reg [⟨some 13,none,.mov (.t 6)⟩,⟨some 14,none,.bin .add (.t 13) (.c (.int .i64 1))⟩,⟨some 6,none,.mov (.t 14)⟩])))))) (.seq (.reg [⟨some 45,none,.ld (some 64) (.t 5)⟩,⟨none,none,.st 64 (.t 4) (.t 45)⟩]) .ret))))
set_option maxRecDepth 100000 in
theorem tr94 : trFn Tryz.prog Tryz.f94 = some (46, ir94, [.cell (some 64) 4]) := by kernel_rfl
theorem spec_l03Coproduct (h : HT) (a : Nat) (v : Nat → Int) (K : Nat → SV) (H : Hp) (n : Nat) (hS : HS h a) (hK : h.At K) (hB : h.By) (hv : isBy 8 v) :
    FnS Tryz.prog 94 [.arr 1106 K, .arr 8 (bys v)] H n (fun r H' _ => r = .arr 64 (bys (cps h.p h.c v 8)) ∧ H' = H) := by
  have hp := hS.hp
  have ha := hS.ha
  have hk0 := hK.p
  have hk1 := hK.n
  rw [hS.hn] at hk1
  have hk5 := hK.c
  refine FnS.of_body Tryz.func94 tr94 (by simp) (fun hf => ?_)
  dsimp only [argEnv]
  unfold ir94
  (repeat first|refine zG ?_|(refine LS.nilO ?_;intro nq hnq hltq;try refine zU ?_)|(refine MS.new ?_;intro bq hbq hbqf;try refine zU ?_)|(refine MS.nil ?_;intro nq hnq hltq;have hlq:=hltq _ _ (Hp.get_eq _ _ _);clear hltq;try refine zU ?_)|(refine LS.nilQ ?_;try with_reducible intro nq hnq;try refine zU ?_))
  refine CS.iter a (fun i => [(6, i64 i), (2, ptr n 0), (3, ptr (n + 1) 0), (4, ptr (n + 2) 0), (5, ptr (n + 3) 0)])
    (fun i => (n + 3, ⟨64, bys (cps h.p h.c v i), 29⟩) :: (n + 2, ⟨64, bys (fun _ => 0), 29⟩) :: (n + 1, ⟨8, bys v, 27⟩) :: (n, ⟨1106, K, 35⟩) :: H) (fun _ => True) (by (repeat first | exact trivial | refine And.intro rfl ?_))
    (Drops.keepc rfl rfl (fun _ _ => by rw [cps_zero]; rfl) (Drops.keepc rfl rfl (fun _ _ => rfl) (Drops.refl _ _))) trivial ?_
  intro i n3 hi hn _
  (repeat first|refine zG ?_|(refine LS.nilO ?_;intro nq hnq hltq;try refine zU ?_)|(refine MS.new ?_;intro bq hbq hbqf;try refine zU ?_)|(refine MS.nil ?_;intro nq hnq hltq;have hlq:=hltq _ _ (Hp.get_eq _ _ _);clear hltq;try refine zU ?_)|(refine LS.nilQ ?_;try with_reducible intro nq hnq;try refine zU ?_))
  refine zI ?_ ?_<;>intro h2
  · have hvi := hv i (by omega)
    (repeat first|refine zG ?_|(refine LS.nilO ?_;intro nq hnq hltq;try refine zU ?_)|(refine MS.new ?_;intro bq hbq hbqf;try refine zU ?_)|(refine MS.nil ?_;intro nq hnq hltq;have hlq:=hltq _ _ (Hp.get_eq _ _ _);clear hltq;try refine zU ?_)|(refine LS.nilQ ?_;try with_reducible intro nq hnq;try refine zU ?_))
    refine CS.iter a (fun j => [(7, i64 j), (6, i64 i), (2, ptr n 0), (3, ptr (n + 1) 0), (4, ptr (n + 2) 0), (5, ptr (n + 3) 0)])
      (fun j => (n + 3, ⟨64, bys (rowsTo (cps h.p h.c v i) (cps h.p h.c v (i + 1)) j), 29⟩) :: (n + 2, ⟨64, bys (fun _ => 0), 29⟩) :: (n + 1, ⟨8, bys v, 27⟩) :: (n, ⟨1106, K, 35⟩) :: H) (fun _ => True) (by (repeat first | exact trivial | refine And.intro rfl ?_))
      (Drops.keepc rfl rfl (fun _ _ => by rw [rowsTo_zero]) (Drops.refl _ _)) trivial ?_
    intro j n4 hj hn4 _
    (repeat first|refine zG ?_|(refine LS.nilO ?_;intro nq hnq hltq;try refine zU ?_)|(refine MS.new ?_;intro bq hbq hbqf;try refine zU ?_)|(refine MS.nil ?_;intro nq hnq hltq;have hlq:=hltq _ _ (Hp.get_eq _ _ _);clear hltq;try refine zU ?_)|(refine LS.nilQ ?_;try with_reducible intro nq hnq;try refine zU ?_))
    refine RS.sp (t := 19) rfl (fun h3 => ?_) (fun h3 => ?_) <;> (try simp only [tb_eq, tb_eqF, decide_eq_true_eq, decide_eq_false_iff_not, beq_iff_eq, bne_iff_ne, ne_eq, Decidable.not_not, beq_eq_false_iff_ne, bne_eq_false_iff_eq, Bool.not_eq_true', Bool.not_eq_false', Bool.not_eq_eq_eq_not, Bool.not_true, Bool.not_false] at h3)
    · (repeat first|refine zG ?_|(refine LS.nilO ?_;intro nq hnq hltq;try refine zU ?_)|(refine MS.new ?_;intro bq hbq hbqf;try refine zU ?_)|(refine MS.nil ?_;intro nq hnq hltq;have hlq:=hltq _ _ (Hp.get_eq _ _ _);clear hltq;try refine zU ?_)|(refine LS.nilQ ?_;try with_reducible intro nq hnq;try refine zU ?_))
      refine zI ?_ ?_<;>intro h4
      · have hr : ∀ q, q < 8 → (bys (rowsTo (cps h.p h.c v i) (cps h.p h.c v (i + 1)) j)) (8 * j + q) = .int .u8 (cps h.p h.c v i (8 * j + q)) := fun y hy => by simp only [bys, rowsTo]; rw [if_neg (by omega)]
        (repeat first|refine zG ?_|(refine LS.nilO ?_;intro nq hnq hltq;try refine zU ?_)|(refine MS.new ?_;intro bq hbq hbqf;try refine zU ?_)|(refine MS.nil ?_;intro nq hnq hltq;have hlq:=hltq _ _ (Hp.get_eq _ _ _);clear hltq;try refine zU ?_)|(refine LS.nilQ ?_;try with_reducible intro nq hnq;try refine zU ?_))
        refine LS.callQ (.arr 8 (bys (pl h.p (fun y => cps h.p h.c v i (8 * j + y)) (v i) (fun y => h.c (64 * i + 8 * j + y))))) rfl (fun n' hn' => spec_l01Add h.p (v i) (fun y => cps h.p h.c v i (8 * j + y)) (fun y => h.c (64 * i + 8 * j + y)) _ _ hp (fun y hy => (cps_res hp.1 h.c v i 64).by hp.2 _ (by omega)) (fun x hx => hB.c _ (by omega)) (by omega)) ?_
        (repeat first|refine zG ?_|(refine LS.nilO ?_;intro nq hnq hltq;try refine zU ?_)|(refine MS.new ?_;intro bq hbq hbqf;try refine zU ?_)|(refine MS.nil ?_;intro nq hnq hltq;have hlq:=hltq _ _ (Hp.get_eq _ _ _);clear hltq;try refine zU ?_)|(refine LS.nilQ ?_;try with_reducible intro nq hnq;try refine zU ?_))
        exact ⟨by omega, by (repeat first | exact trivial | refine And.intro rfl ?_), Drops.keepc rfl rfl (fun q hq => rowsTo_step (fun y hy => cps_row _ _ _ _ _ _) q) (Drops.refl _ _), trivial⟩
      · (repeat first|refine zG ?_|(refine LS.nilO ?_;intro nq hnq hltq;try refine zU ?_)|(refine MS.new ?_;intro bq hbq hbqf;try refine zU ?_)|(refine MS.nil ?_;intro nq hnq hltq;have hlq:=hltq _ _ (Hp.get_eq _ _ _);clear hltq;try refine zU ?_)|(refine LS.nilQ ?_;try with_reducible intro nq hnq;try refine zU ?_))
        exact ⟨by omega, by (repeat first | exact trivial | refine And.intro rfl ?_), Drops.keepc rfl rfl (fun q hq => by simp only [bys, rowsTo]; rw [cps_same h4]; split <;> rfl) (Drops.refl _ _), trivial⟩
    · have : j = a := by omega
      subst this
      (repeat first|refine zG ?_|(refine LS.nilO ?_;intro nq hnq hltq;try refine zU ?_)|(refine MS.new ?_;intro bq hbq hbqf;try refine zU ?_)|(refine MS.nil ?_;intro nq hnq hltq;have hlq:=hltq _ _ (Hp.get_eq _ _ _);clear hltq;try refine zU ?_)|(refine LS.nilQ ?_;try with_reducible intro nq hnq;try refine zU ?_))
      exact ⟨by omega, by (repeat first | exact trivial | refine And.intro rfl ?_), Drops.keepc rfl rfl (fun q hq => by simp only [bys]; rw [rowsTo_all (fun q h1 h2 => cps_out hS.cm (by omega) h1 h2) hq]) (Drops.refl _ _), trivial⟩
  · have : i = a := by omega
    subst this
    (repeat first|refine zG ?_|(refine LS.nilO ?_;intro nq hnq hltq;try refine zU ?_)|(refine MS.new ?_;intro bq hbq hbqf;try refine zU ?_)|(refine MS.nil ?_;intro nq hnq hltq;have hlq:=hltq _ _ (Hp.get_eq _ _ _);clear hltq;try refine zU ?_)|(refine LS.nilQ ?_;try with_reducible intro nq hnq;try refine zU ?_))
    exact ⟨.arr 64 (bys (cps h.p h.c v 8)), H, conc_arr (fun q hq => by simp only [Nat.zero_add, bys]; rw [← cps_end hS.cm ha hq]), by exact zD, rfl, rfl⟩
/-- (*impl.Hopf).tensor$1$1 -/
def ir66 : Cd := (.seq (.drw true [] [⟨some 14,none,.ld none (.t 3)⟩,⟨some 15,none,.ld none (.t 4)⟩,⟨some 16,none,.mov (.t 0)⟩,⟨some 17,none,.ck (.t 14)⟩,⟨some 18,none,.fa 10 (.t 17)⟩,⟨some 19,none,.ia 8 64 (.t 18) (.t 15)⟩,⟨some 20,none,.ia 8 8 (.t 19) (.t 16)⟩,⟨some 21,none,.ld (some 8) (.t 20)⟩,⟨some 22,none,.mov (.c (.int .i64 0))⟩]) (.block 0 (.loop (.seq (.reg [⟨some 23,none,.bin .lss (.t 22) (.c (.int .i64 8))⟩]) (.seq (.cond (.t 23) .skip (.exit 0)) (.seq (.block 1 (.seq (.reg [⟨some 24,none,.mov (.t 22)⟩,⟨some 25,none,.ix 8 1 none (.t 21) (.t 22)⟩,⟨some 12,none,.mov (.t 24)⟩,⟨some 13,none,.mov (.t 25)⟩]) (.drw true [20] [⟨some 26,none,.ld (some 2) (.t 5)⟩,⟨some 27,none,.mov (.t 12)⟩,⟨some 28,none,.ia 8 8 (.t 6) (.t 27)⟩,⟨some 29,none,.ld none (.t 7)⟩,⟨some 30,none,.mov (.t 2)⟩,⟨some 31,none,.bin .mul (.t 29) (.t 30)⟩,⟨some 32,none,.fa 0 (.t 5)⟩,⟨some 33,none,.ld none (.t 32)⟩,⟨some 34,none,.bin .rem (.t 31) (.t 33)⟩,⟨some 35,none,.mov (.t 13)⟩,⟨some 36,none,.cv .i64 (.t 35)⟩,⟨some 37,none,.bin .mul (.t 34) (.t 36)⟩,⟨some 38,none,.ld none (.t 3)⟩,⟨some 39,none,.ld none (.t 8)⟩,⟨some 40,none,.mov (.t 1)⟩,⟨some 41,none,.ck (.t 38)⟩,⟨some 42,none,.fa 10 (.t 41)⟩,⟨some 43,none,.ia 8 64 (.t 42) (.t 39)⟩,⟨some 44,none,.ia 8 8 (.t 43) (.t 40)⟩,⟨some 45,none,.ld (some 8) (.t 44)⟩,⟨some 46,none,.call 50 [(.t 26),(.t 28),(.t 37),(.t 45)]⟩]))) (.reg [⟨some 47,none,.bin .add (.t 22) (.c (.int .i64 1))⟩,⟨some 22,none,.mov (.t 47)⟩])))))))
set_option maxRecDepth 100000 in
theorem tr66 : trFn Tryz.prog Tryz.f66 = some (48, ir66, []) := by kernel_rfl
theorem Hopf_tensor_2 (h : HT) (a : Nat) (A B : Nat → Int) (t j k s l i' : Nat) (ht : t = 8 * j + k) (hj : j < 8) (hk : k < 8) (hs : s = 8 * l + i') (hl : l < 8) (hi' : i' < 8)
    (b bh bj bf bo bx bk : Nat) (K Kh Kj Kx Kk : Blk) (H : Hp) (n : Nat) (hS : HS h a) (hb : H.get b = some K) (hsz : K.size = 1106) (hK : h.At K.c) (hB : h.By) (hA : isBy 64 A) (hBb : isBy 64 B)
    (gh : H.get bh = some Kh) (sh : Kh.size = 1) (ch : Kh.c 0 = .ptr b 0) (gj : H.get bj = some Kj) (sj : Kj.size = 1) (cj : Kj.c 0 = .int .i64 j) (gf : H.get bf = some ⟨2, fldC h.p a, 85⟩)
    (go : H.get bo = some ⟨64, bys (tns h.p h.m A B t s), 29⟩) (gx : H.get bx = some Kx) (sx : Kx.size = 1) (cx : Kx.c 0 = .int .i64 (A t)) (gk : H.get bk = some Kk) (sk : Kk.size = 1) (ck : Kk.c 0 = .int .i64 k)
    (d1 : bo ≠ b) (d2 : bo ≠ bh) (d3 : bo ≠ bj) (d4 : bo ≠ bf) (d5 : bo ≠ bx) (d6 : bo ≠ bk) :
    FnS Tryz.prog 66 [i64 l, i64 i', i64 (B s), ptr bh 0, ptr bj 0, ptr bf 0, ptr bo 0, ptr bx 0, ptr bk 0] H n (fun _ H' _ => H' = H.set bo (bys (tns h.p h.m A B t (s + 1)))) := by
  have hp := hS.hp
  have ha := hS.ha
  have hk5 := hK.m
  have hs0 : H.set bo (bys (tns h.p h.m A B t s)) = H := Hp.set_self go
  have hAt := hA t (by omega)
  have hBs := hBb s (by omega)
  have hAB := mulB hAt.1 hAt.2 hBs.1 hBs.2
  have hr := modB (A t * B s) hp.1
  refine FnS.of_body Tryz.func66 tr66 (by simp) (fun hf => ?_)
  dsimp only [argEnv]
  unfold ir66
  have hbn := getlt hf hb
  (repeat first|refine zG ?_|(refine LS.nilO ?_;intro nq hnq hltq;try refine zU ?_)|(refine MS.new ?_;intro bq hbq hbqf;try refine zU ?_)|(refine MS.nil ?_;intro nq hnq hltq;have hlq:=hltq _ _ (Hp.get_eq _ _ _);clear hltq;try refine zU ?_)|(refine LS.nilQ ?_;try with_reducible intro nq hnq;try refine zU ?_))
  refine CS.iter 8 (fun i => [(22, i64 i), (21, .arr 8 (bys (fun x => h.m (64 * j + 8 * l + x)))), (1, i64 i'), (2, i64 (B s)), (3, ptr bh 0), (5, ptr bf 0), (6, ptr bo 0), (7, ptr bx 0), (8, ptr bk 0)])
    (fun i => H.set bo (bys (rowsTo (tns h.p h.m A B t s) (tns h.p h.m A B t (s + 1)) i))) (fun _ => True) (by (repeat first | exact trivial | refine And.intro rfl ?_)) (by rw [rowsTo_zero, hs0]; exact Drops.refl _ _) trivial ?_
  intro i n3 hi hn _
  (repeat first|refine zG ?_|(refine LS.nilO ?_;intro nq hnq hltq;try refine zU ?_)|(refine MS.new ?_;intro bq hbq hbqf;try refine zU ?_)|(refine MS.nil ?_;intro nq hnq hltq;have hlq:=hltq _ _ (Hp.get_eq _ _ _);clear hltq;try refine zU ?_)|(refine LS.nilQ ?_;try with_reducible intro nq hnq;try refine zU ?_))
  refine zI ?_ ?_<;>intro h2
  · have hz := hB.m (64 * j + 8 * l + i) (by omega)
    have hzz := mulB hr.1 (show _ ≤ 31 by omega) hz.1 hz.2
    (repeat first|refine zG ?_|(refine LS.nilO ?_;intro nq hnq hltq;try refine zU ?_)|(refine MS.new ?_;intro bq hbq hbqf;try refine zU ?_)|(refine MS.nil ?_;intro nq hnq hltq;have hlq:=hltq _ _ (Hp.get_eq _ _ _);clear hltq;try refine zU ?_)|(refine LS.nilQ ?_;try with_reducible intro nq hnq;try refine zU ?_))
    refine RS.call rfl ((field_plus h.p a (A t * B s % h.p * h.m (64 * j + 8 * l + i)) (fun y => tns h.p h.m A B t s (8 * i + y)) (fun y => h.m (64 * k + 8 * i' + y)) bo (8 * i) ⟨64, bys (rowsTo (tns h.p h.m A B t s) (tns h.p h.m A B t (s + 1)) i), 29⟩ _ _ hp (Hp.get_set_self _ go) (show 8 * i + 8 ≤ 64 by omega)
      (fun y hy => by simp only [bys, rowsTo]; rw [if_neg (by omega)]) (fun y hy => tns_res hp.1 _ _ _ _ _ 64 _ (by omega)) (fun x hx => hB.m _ (by omega)) (by omega)).mono ?_)
    rintro r H' n5 hn5 ⟨rfl, rfl⟩
    simp only [Hp.set_set]
    (repeat first|refine zG ?_|(refine LS.nilO ?_;intro nq hnq hltq;try refine zU ?_)|(refine MS.new ?_;intro bq hbq hbqf;try refine zU ?_)|(refine MS.nil ?_;intro nq hnq hltq;have hlq:=hltq _ _ (Hp.get_eq _ _ _);clear hltq;try refine zU ?_)|(refine LS.nilQ ?_;try with_reducible intro nq hnq;try refine zU ?_))
    refine ⟨by omega, by (repeat first | exact trivial | refine And.intro rfl ?_), Drops.setc go (fun q hq => rowsTo_step (fun y hy => ?_) q), trivial⟩
    rw [← tns_row h.p h.m A B t s i y hy, ht, hs, show (8 * j + k) / 8 = j by omega, show (8 * j + k) % 8 = k by omega, show (8 * l + i') / 8 = l by omega, show (8 * l + i') % 8 = i' by omega]
  · have : i = 8 := by omega
    subst this
    (repeat first|refine zG ?_|(refine LS.nilO ?_;intro nq hnq hltq;try refine zU ?_)|(refine MS.new ?_;intro bq hbq hbqf;try refine zU ?_)|(refine MS.nil ?_;intro nq hnq hltq;have hlq:=hltq _ _ (Hp.get_eq _ _ _);clear hltq;try refine zU ?_)|(refine LS.nilQ ?_;try with_reducible intro nq hnq;try refine zU ?_))
    exact ⟨_, H.set bo (bys (tns h.p h.m A B t (s + 1))), rfl, Drops.setc go (fun q hq => by simp only [bys]; rw [rowsTo_all (n := 8) (N := 64) (fun q h1 h2 => by omega) hq]), rfl⟩
/-- laws.toTable -/
def ir23 : Cd := (.seq (.reg [⟨some 1,none,.box 24 (.t 0)⟩,⟨some 2,none,.new 33 [(512,(.int .u8 0))]⟩]) (.seq (.reg [⟨some 3,none,.new 33 [(512,(.int .u8 0))]⟩]) (.seq (.seq (.reg [⟨some 4,none,.mov (.c (.int .i64 0))⟩]) (.block 0 (.loop (.seq (.seq (.reg [⟨some 5,none,.mov (.t 4)⟩,⟨some 6,none,.bin .lss (.t 5) (.c (.int .i64 8))⟩]) (.cond (.t 6) .skip (.exit 0))) (.seq (.block 1 (.reg [⟨some 9,none,.mov (.t 4)⟩,⟨some 10,none,.mov (.t 4)⟩,⟨some 11,none,.ia 8 64 (.t 1) (.t 10)⟩,⟨some 12,none,.ld (some 64) (.t 11)⟩,⟨some 13,none,.call 9 [(.t 12)]⟩,⟨some 14,none,.ia 8 64 (.t 3) (.t 9)⟩,⟨none,none,.st 64 (.t 14) (.t 13)⟩])) (.reg [⟨some 7,none,.mov (.t 4)⟩,⟨some 8,none,.bin .add (.t 7) (.c (.int .i64 1))⟩,⟨some 4,none,.mov (.t 8)⟩])))))) (.seq (.reg [⟨some 15,none,.ld (some 512) (.t 3)⟩,⟨none,none,.st 512 (.t 2) (.t 15)⟩]) .ret))))
set_option maxRecDepth 100000 in
theorem tr23 : trFn Tryz.prog Tryz.f23 = some (16, ir23, [.cell (some 512) 2]) := by kernel_rfl
theorem laws_toTable (t : Nat → Int) (H : Hp) (n : Nat) :
    FnS Tryz.prog 23 [.arr 512 (bys t)] H n (fun r H' _ => r = .arr 512 (bys t) ∧ H' = H) := by
  refine FnS.of_body Tryz.func23 tr23 (by simp) (fun hf => ?_)
  dsimp only [argEnv]
  unfold ir23
  (repeat first|refine zG ?_|(refine LS.nilO ?_;intro nq hnq hltq;try refine zU ?_)|(refine MS.new ?_;intro bq hbq hbqf;try refine zU ?_)|(refine MS.nil ?_;intro nq hnq hltq;have hlq:=hltq _ _ (Hp.get_eq _ _ _);clear hltq;try refine zU ?_)|(refine LS.nilQ ?_;try with_reducible intro nq hnq;try refine zU ?_))
  refine CS.iter 8 (fun i => [(4, i64 i), (1, ptr n 0), (2, ptr (n + 1) 0), (3, ptr (n + 2) 0)])
    (fun i => (n + 2, ⟨512, bys (tabsTo (fun _ => 0) t i), 33⟩) :: (n + 1, ⟨512, bys (fun _ => 0), 33⟩) :: (n, ⟨512, bys t, 24⟩) :: H) (fun _ => True) (by (repeat first | exact trivial | refine And.intro rfl ?_))
    (Drops.keepc rfl rfl (fun _ _ => by rw [tabsTo_zero]; rfl) (Drops.keepc rfl rfl (fun _ _ => rfl) (Drops.refl _ _))) trivial ?_
  intro i n1 hi hn _
  (repeat first|refine zG ?_|(refine LS.nilO ?_;intro nq hnq hltq;try refine zU ?_)|(refine MS.new ?_;intro bq hbq hbqf;try refine zU ?_)|(refine MS.nil ?_;intro nq hnq hltq;have hlq:=hltq _ _ (Hp.get_eq _ _ _);clear hltq;try refine zU ?_)|(refine LS.nilQ ?_;try with_reducible intro nq hnq;try refine zU ?_))
  refine zI ?_ ?_<;>intro h1
  · have hr : ∀ q, q < 64 → (bys t) (64 * i + q) = .int .u8 (t (64 * i + q)) := fun q hq => rfl
    (repeat first|refine zG ?_|(refine LS.nilO ?_;intro nq hnq hltq;try refine zU ?_)|(refine MS.new ?_;intro bq hbq hbqf;try refine zU ?_)|(refine MS.nil ?_;intro nq hnq hltq;have hlq:=hltq _ _ (Hp.get_eq _ _ _);clear hltq;try refine zU ?_)|(refine LS.nilQ ?_;try with_reducible intro nq hnq;try refine zU ?_))
    refine RS.call rfl ((laws_toLinear (fun x => t (64 * i + x)) _ _).mono ?_)
    rintro r H' n2 hn2 ⟨rfl, rfl⟩
    (repeat first|refine zG ?_|(refine LS.nilO ?_;intro nq hnq hltq;try refine zU ?_)|(refine MS.new ?_;intro bq hbq hbqf;try refine zU ?_)|(refine MS.nil ?_;intro nq hnq hltq;have hlq:=hltq _ _ (Hp.get_eq _ _ _);clear hltq;try refine zU ?_)|(refine LS.nilQ ?_;try with_reducible intro nq hnq;try refine zU ?_))
    exact ⟨by omega, by (repeat first | exact trivial | refine And.intro rfl ?_), Drops.keepc rfl rfl (fun q hq => tabsTo_step (fun y hy => rfl) q) (Drops.refl _ _), trivial⟩
  · have : i = 8 := by omega
    subst this
    (repeat first|refine zG ?_|(refine LS.nilO ?_;intro nq hnq hltq;try refine zU ?_)|(refine MS.new ?_;intro bq hbq hbqf;try refine zU ?_)|(refine MS.nil ?_;intro nq hnq hltq;have hlq:=hltq _ _ (Hp.get_eq _ _ _);clear hltq;try refine zU ?_)|(refine LS.nilQ ?_;try with_reducible intro nq hnq;try refine zU ?_))
    exact ⟨.arr 512 (bys t), H, conc_arr (fun q hq => by simp only [Nat.zero_add, bys, tabsTo]; rw [if_pos (by omega)]), by exact zD, rfl, rfl⟩
/-- (*impl.Hopf).firstPart -/
def ir61 : Cd := (.seq (.reg [⟨some 4,none,.new 33 [(512,(.int .u8 0))]⟩]) (.seq (.reg [⟨some 11,none,.mov (.t 0)⟩,⟨some 12,none,.call 49 [(.t 11)]⟩,⟨some 13,none,.build 512 [(512,(.int .u8 0))] []⟩,⟨some 5,none,.new 85 [(2,(.int .i64 0))]⟩,⟨some 6,none,.new 33 [(512,(.int .u8 0))]⟩,⟨none,none,.st 2 (.t 5) (.t 12)⟩,⟨none,none,.st 512 (.t 6) (.t 13)⟩]) (.seq (.seq (.reg [⟨some 14,none,.fa 1 (.t 5)⟩,⟨some 15,none,.ld none (.t 14)⟩,⟨some 16,none,.mov (.c (.int .i64 0))⟩]) (.block 0 (.loop (.seq (.reg [⟨some 17,none,.bin .lss (.t 16) (.t 15)⟩]) (.seq (.cond (.t 17) .skip (.exit 0)) (.seq (.block 1 (.seq (.reg [⟨some 18,none,.mov (.t 16)⟩,⟨some 7,none,.mov (.t 18)⟩]) (.seq (.reg [⟨some 19,none,.fa 1 (.t 5)⟩,⟨some 20,none,.ld none (.t 19)⟩,⟨some 21,none,.mov (.c (.int .i64 0))⟩]) (.block 2 (.loop (.seq (.reg [⟨some 22,none,.bin .lss (.t 21) (.t 20)⟩]) (.seq (.cond (.t 22) .skip (.exit 2)) (.seq (.block 3 (.seq (.reg [⟨some 23,none,.mov (.t 21)⟩,⟨some 8,none,.mov (.t 23)⟩]) (.seq (.reg [⟨some 24,none,.mov (.t 0)⟩,⟨some 25,none,.mov (.t 7)⟩,⟨some 26,none,.mov (.t 8)⟩,⟨some 27,none,.ck (.t 24)⟩,⟨some 28,none,.fa 530 (.t 27)⟩,⟨some 29,none,.ia 8 64 (.t 28) (.t 25)⟩,⟨some 30,none,.ia 8 8 (.t 29) (.t 26)⟩,⟨some 31,none,.ld (some 8) (.t 30)⟩,⟨some 32,none,.mov (.c (.int .i64 0))⟩]) (.block 4 (.loop (.seq (.reg [⟨some 33,none,.bin .lss (.t 32) (.c (.int .i64 8))⟩]) (.seq (.cond (.t 33) .skip (.exit 4)) (.seq (.block 5 (.seq (.reg [⟨some 34,none,.mov (.t 32)⟩,⟨some 35,none,.ix 8 1 none (.t 31) (.t 32)⟩,⟨some 9,none,.mov (.t 34)⟩,⟨some 10,none,.mov (.t 35)⟩]) (.drw true [12] [⟨some 36,none,.ld (some 2) (.t 5)⟩,⟨some 37,none,.mov (.t 8)⟩,⟨some 38,none,.mov (.t 9)⟩,⟨some 39,none,.ia 8 64 (.t 6) (.t 37)⟩,⟨some 40,none,.ia 8 8 (.t 39) (.t 38)⟩,⟨some 41,none,.mov (.t 10)⟩,⟨some 42,none,.cv .i64 (.t 41)⟩,⟨some 43,none,.mov (.t 1)⟩,⟨some 44,none,.mov (.t 7)⟩,⟨some 45,none,.ck (.t 43)⟩,⟨some 46,none,.ia 8 8 (.t 45) (.t 44)⟩,⟨some 47,none,.ld (some 8) (.t 46)⟩,⟨some 48,none,.call 50 [(.t 36),(.t 40),(.t 42),(.t 47)]⟩]))) (.reg [⟨some 49,none,.bin .add (.t 32) (.c (.int .i64 1))⟩,⟨some 32,none,.mov (.t 49)⟩]))))))))) (.reg [⟨some 50,none,.bin .add (.t 21) (.c (.int .i64 1))⟩,⟨some 21,none,.mov (.t 50)⟩]))))))))) (.reg [⟨some 51,none,.bin .add (.t 16) (.c (.int .i64 1))⟩,⟨some 16,none,.mov (.t 51)⟩]))))))) (.seq (.reg [⟨some 52,none,.ld (some 512) (.t 6)⟩,⟨none,none,.st 512 (.t 4) (.t 52)⟩]) .ret))))
set_option maxRecDepth 100000 in
theorem tr61 : trFn Tryz.prog Tryz.f61 = some (53, ir61, [.cell (some 512) 4]) := by kernel_rfl
theorem Hopf_firstPart (h : HT) (a : Nat) (s : Nat → Int) (b bs os : Nat) (K Ks : Blk) (H : Hp) (n : Nat) (hS : HS h a) (hb : H.get b = some K) (hsz : K.size = 1106) (hK : h.At K.c) (hB : h.By)
    (hbs : H.get bs = some Ks) (ho : os + 64 ≤ Ks.size) (hc : ∀ i, i < 64 → Ks.c (os + i) = .int .u8 (s i)) (hs : isBy 64 s) :
    FnS Tryz.prog 61 [ptr b 0, ptr bs os] H n (fun r H' _ => r = .arr 512 (bys (fpt h.p h.c s a)) ∧ H' = H) := by
  have hp := hS.hp
  have ha := hS.ha
  have hk1 := hK.n
  rw [hS.hn] at hk1
  have hk5 := hK.c
  refine FnS.of_body Tryz.func61 tr61 (by simp) (fun hf => ?_)
  dsimp only [argEnv]
  unfold ir61
  have hbn := getlt hf hb
  have hbn2 := getlt hf hbs
  (repeat first|refine zG ?_|(refine LS.nilO ?_;intro nq hnq hltq;try refine zU ?_)|(refine MS.new ?_;intro bq hbq hbqf;try refine zU ?_)|(refine MS.nil ?_;intro nq hnq hltq;have hlq:=hltq _ _ (Hp.get_eq _ _ _);clear hltq;try refine zU ?_)|(refine LS.nilQ ?_;try with_reducible intro nq hnq;try refine zU ?_))
  refine RS.call rfl ((Hopf_field h.p a b K _ _ (by exact zH) hsz hK.p hk1 (by omega)).mono ?_)
  rintro r H' n2 hn2 ⟨rfl, rfl⟩
  (repeat first|refine zG ?_|(refine LS.nilO ?_;intro nq hnq hltq;try refine zU ?_)|(refine MS.new ?_;intro bq hbq hbqf;try refine zU ?_)|(refine MS.nil ?_;intro nq hnq hltq;have hlq:=hltq _ _ (Hp.get_eq _ _ _);clear hltq;try refine zU ?_)|(refine LS.nilQ ?_;try with_reducible intro nq hnq;try refine zU ?_))
  refine CS.iter a (fun k => [(16, i64 k), (15, i64 a), (0, ptr b 0), (1, ptr bs os), (4, ptr n 0), (5, ptr n2 0), (6, ptr (n2 + 1) 0)])
    (fun k => (n2 + 1, ⟨512, bys (fpt h.p h.c s k), 33⟩) :: (n2, ⟨2, fldC h.p a, 85⟩) :: (n, ⟨512, bys (fun _ => 0), 33⟩) :: H) (fun _ => True) (by (repeat first | exact trivial | refine And.intro rfl ?_))
    (Drops.keepc rfl rfl (fun _ _ => by rw [fpt_zero]; rfl) (Drops.keepc rfl rfl (fun _ _ => rfl) (Drops.keepc rfl rfl (fun _ _ => rfl) (Drops.refl _ _)))) trivial ?_
  intro k n3 hk hn _
  (repeat first|refine zG ?_|(refine LS.nilO ?_;intro nq hnq hltq;try refine zU ?_)|(refine MS.new ?_;intro bq hbq hbqf;try refine zU ?_)|(refine MS.nil ?_;intro nq hnq hltq;have hlq:=hltq _ _ (Hp.get_eq _ _ _);clear hltq;try refine zU ?_)|(refine LS.nilQ ?_;try with_reducible intro nq hnq;try refine zU ?_))
  refine zI ?_ ?_<;>intro h2
  · (repeat first|refine zG ?_|(refine LS.nilO ?_;intro nq hnq hltq;try refine zU ?_)|(refine MS.new ?_;intro bq hbq hbqf;try refine zU ?_)|(refine MS.nil ?_;intro nq hnq hltq;have hlq:=hltq _ _ (Hp.get_eq _ _ _);clear hltq;try refine zU ?_)|(refine LS.nilQ ?_;try with_reducible intro nq hnq;try refine zU ?_))
    refine CS.iter a (fun i => [(21, i64 i), (20, i64 a), (7, i64 k), (16, i64 k), (15, i64 a), (0, ptr b 0), (1, ptr bs os), (4, ptr n 0), (5, ptr n2 0), (6, ptr (n2 + 1) 0)])
      (fun i => (n2 + 1, ⟨512, bys (rowsTo (fpt h.p h.c s k) (fpt h.p h.c s (k + 1)) (8 * i)), 33⟩) :: (n2, ⟨2, fldC h.p a, 85⟩) :: (n, ⟨512, bys (fun _ => 0), 33⟩) :: H) (fun _ => True) (by (repeat first | exact trivial | refine And.intro rfl ?_))
      (Drops.keepc rfl rfl (fun _ _ => by rw [show rowsTo (fpt h.p h.c s k) (fpt h.p h.c s (k + 1)) (8 * 0) = fpt h.p h.c s k from rowsTo_zero _ _]) (Drops.refl _ _)) trivial ?_
    intro i n4 hi hn4 _
    (repeat first|refine zG ?_|(refine LS.nilO ?_;intro nq hnq hltq;try refine zU ?_)|(refine MS.new ?_;intro bq hbq hbqf;try refine zU ?_)|(refine MS.nil ?_;intro nq hnq hltq;have hlq:=hltq _ _ (Hp.get_eq _ _ _);clear hltq;try refine zU ?_)|(refine LS.nilQ ?_;try with_reducible intro nq hnq;try refine zU ?_))
    refine zI ?_ ?_<;>intro h3
    · (repeat first|refine zG ?_|(refine LS.nilO ?_;intro nq hnq hltq;try refine zU ?_)|(refine MS.new ?_;intro bq hbq hbqf;try refine zU ?_)|(refine MS.nil ?_;intro nq hnq hltq;have hlq:=hltq _ _ (Hp.get_eq _ _ _);clear hltq;try refine zU ?_)|(refine LS.nilQ ?_;try with_reducible intro nq hnq;try refine zU ?_))
      refine CS.iter 8 (fun j => [(32, i64 j), (31, .arr 8 (bys (fun x => h.c (64 * k + 8 * i + x)))), (8, i64 i), (21, i64 i), (20, i64 a), (7, i64 k), (16, i64 k), (15, i64 a), (0, ptr b 0), (1, ptr bs os), (4, ptr n 0), (5, ptr n2 0), (6, ptr (n2 + 1) 0)])
        (fun j => (n2 + 1, ⟨512, bys (rowsTo (fpt h.p h.c s k) (fpt h.p h.c s (k + 1)) (8 * i + j)), 33⟩) :: (n2, ⟨2, fldC h.p a, 85⟩) :: (n, ⟨512, bys (fun _ => 0), 33⟩) :: H) (fun _ => True) (by (repeat first | exact trivial | refine And.intro rfl ?_)) (Drops.refl _ _) trivial ?_
      intro j n5 hj hn5 _
      (repeat first|refine zG ?_|(refine LS.nilO ?_;intro nq hnq hltq;try refine zU ?_)|(refine MS.new ?_;intro bq hbq hbqf;try refine zU ?_)|(refine MS.nil ?_;intro nq hnq hltq;have hlq:=hltq _ _ (Hp.get_eq _ _ _);clear hltq;try refine zU ?_)|(refine LS.nilQ ?_;try with_reducible intro nq hnq;try refine zU ?_))
      refine zI ?_ ?_<;>intro h4
      · have hx := hB.c (64 * k + 8 * i + j) (by omega)
        (repeat first|refine zG ?_|(refine LS.nilO ?_;intro nq hnq hltq;try refine zU ?_)|(refine MS.new ?_;intro bq hbq hbqf;try refine zU ?_)|(refine MS.nil ?_;intro nq hnq hltq;have hlq:=hltq _ _ (Hp.get_eq _ _ _);clear hltq;try refine zU ?_)|(refine LS.nilQ ?_;try with_reducible intro nq hnq;try refine zU ?_))
        refine RS.call rfl ((field_plus h.p a (h.c (64 * k + 8 * i + j)) (fun y => fpt h.p h.c s k (64 * i + 8 * j + y)) (fun y => s (8 * k + y)) (n2 + 1) (64 * i + 8 * j) ⟨512, bys (rowsTo (fpt h.p h.c s k) (fpt h.p h.c s (k + 1)) (8 * i + j)), 33⟩ _ _ hp (by exact zH) (show 64 * i + 8 * j + 8 ≤ 512 by omega)
          (fun y hy => by simp only [bys, rowsTo]; rw [if_neg (by omega)]) (fun y hy => fpt_res hp.1 _ _ _ 512 _ (by omega)) (fun x hx => hs _ (by omega)) (by omega)).mono ?_)
        rintro r H' n6 hn6 ⟨rfl, rfl⟩
        simp (disch := omega) only [Hp.set_eq, Hp.set_ne]
        (repeat first|refine zG ?_|(refine LS.nilO ?_;intro nq hnq hltq;try refine zU ?_)|(refine MS.new ?_;intro bq hbq hbqf;try refine zU ?_)|(refine MS.nil ?_;intro nq hnq hltq;have hlq:=hltq _ _ (Hp.get_eq _ _ _);clear hltq;try refine zU ?_)|(refine LS.nilQ ?_;try with_reducible intro nq hnq;try refine zU ?_))
        refine ⟨by omega, by (repeat first | exact trivial | refine And.intro rfl ?_), Drops.keepc rfl rfl (fun q hq => ?_) (Drops.refl _ _), trivial⟩
        rw [show 64 * i + 8 * j = 8 * (8 * i + j) by omega]
        refine rowsTo_step (fun y hy => ?_) q
        rw [← fpt_row _ _ _ _ _ _ _ hy, show 8 * (8 * i + j) = 64 * i + 8 * j by omega]
      · have : j = 8 := by omega
        subst this
        (repeat first|refine zG ?_|(refine LS.nilO ?_;intro nq hnq hltq;try refine zU ?_)|(refine MS.new ?_;intro bq hbq hbqf;try refine zU ?_)|(refine MS.nil ?_;intro nq hnq hltq;have hlq:=hltq _ _ (Hp.get_eq _ _ _);clear hltq;try refine zU ?_)|(refine LS.nilQ ?_;try with_reducible intro nq hnq;try refine zU ?_))
        exact ⟨by omega, by (repeat first | exact trivial | refine And.intro rfl ?_), Drops.refl _ _, trivial⟩
    · have : i = a := by omega
      subst this
      (repeat first|refine zG ?_|(refine LS.nilO ?_;intro nq hnq hltq;try refine zU ?_)|(refine MS.new ?_;intro bq hbq hbqf;try refine zU ?_)|(refine MS.nil ?_;intro nq hnq hltq;have hlq:=hltq _ _ (Hp.get_eq _ _ _);clear hltq;try refine zU ?_)|(refine LS.nilQ ?_;try with_reducible intro nq hnq;try refine zU ?_))
      exact ⟨by omega, by (repeat first | exact trivial | refine And.intro rfl ?_), Drops.keepc rfl rfl (fun q hq => by simp only [bys]; rw [rowsTo_all (N := 512) (fun q h1 h2 => fpt_same (hS.cm.at (by omega) (by omega) (.inr (by omega)))) hq]) (Drops.refl _ _), trivial⟩
  · have : k = a := by omega
    subst this
    (repeat first|refine zG ?_|(refine LS.nilO ?_;intro nq hnq hltq;try refine zU ?_)|(refine MS.new ?_;intro bq hbq hbqf;try refine zU ?_)|(refine MS.nil ?_;intro nq hnq hltq;have hlq:=hltq _ _ (Hp.get_eq _ _ _);clear hltq;try refine zU ?_)|(refine LS.nilQ ?_;try with_reducible intro nq hnq;try refine zU ?_))
    exact ⟨.arr 512 (bys (fpt h.p h.c s k)), H, conc_arr (fun q hq => by simp only [Nat.zero_add]), by exact zD, rfl, rfl⟩
/-- spec.l10Product -/
def ir84 : Cd := (.seq (.reg [⟨some 4,none,.box 35 (.t 0)⟩,⟨some 5,none,.box 29 (.t 1)⟩,⟨some 8,none,.new 27 [(8,(.int .u8 0))]⟩]) (.seq (.mix [⟨some 16,none,.build 8 [(8,(.int .u8 0))] []⟩,⟨some 17,none,.fa 1 (.t 4)⟩,⟨some 18,none,.ld none (.t 17)⟩] [⟨some 9,none,.new 27 [(8,(.int .u8 0))]⟩,⟨none,none,.st 8 (.t 9) (.t 16)⟩,⟨some 10,none,.mov (.t 18)⟩]) (.seq (.seq (.reg [⟨some 11,none,.mov (.c (.int .i64 0))⟩]) (.block 0 (.loop (.seq (.seq (.reg [⟨some 19,none,.mov (.t 11)⟩,⟨some 20,none,.mov (.t 10)⟩,⟨some 21,none,.bin .lss (.t 19) (.t 20)⟩]) (.cond (.t 21) .skip (.exit 0))) (.seq (.block 1 (.seq (.reg [⟨some 12,none,.mov (.c (.int .i64 0))⟩]) (.block 2 (.loop (.seq (.seq (.reg [⟨some 24,none,.mov (.t 12)⟩,⟨some 25,none,.mov (.t 10)⟩,⟨some 26,none,.bin .lss (.t 24) (.t 25)⟩]) (.cond (.t 26) .skip (.exit 2))) (.seq (.block 3 (.seq (.seq (.reg [⟨some 29,none,.mov (.t 2)⟩,⟨some 30,none,.mov (.t 11)⟩,⟨some 31,none,.mov (.t 12)⟩,⟨some 32,none,.fa 530 (.t 4)⟩,⟨some 33,none,.ia 8 64 (.t 32) (.t 29)⟩,⟨some 34,none,.ia 8 8 (.t 33) (.t 30)⟩,⟨some 35,none,.ia 8 1 (.t 34) (.t 31)⟩,⟨some 36,none,.ld none (.t 35)⟩,⟨some 37,none,.bin .eql (.t 36) (.c (.int .u8 0))⟩]) (.cond (.t 37) (.exit 3) .skip)) (.seq (.reg [⟨some 13,none,.mov (.c (.int .i64 0))⟩]) (.block 4 (.loop (.seq (.seq (.reg [⟨some 38,none,.mov (.t 13)⟩,⟨some 39,none,.mov (.t 10)⟩,⟨some 40,none,.bin .lss (.t 38) (.t 39)⟩]) (.cond (.t 40) .skip (.exit 4))) (.seq (.block 5 (.seq (.reg [⟨some 14,none,.mov (.c (.int .i64 0))⟩]) (.block 6 (.loop (.seq (.seq (.reg [⟨some 43,none,.mov (.t 14)⟩,⟨some 44,none,.mov (.t 10)⟩,⟨some 45,none,.bin .lss (.t 43) (.t 44)⟩]) (.cond (.t 45) .skip (.exit 6))) (.seq (.block 7 (.seq (.drw true [] [⟨some 48,none,.mov (.t 2)⟩,⟨some 49,none,.mov (.t 11)⟩,⟨some 50,none,.mov (.t 12)⟩,⟨some 51,none,.fa 530 (.t 4)⟩,⟨some 52,none,.ia 8 64 (.t 51) (.t 48)⟩,⟨some 53,none,.ia 8 8 (.t 52) (.t 49)⟩,⟨some 54,none,.ia 8 1 (.t 53) (.t 50)⟩,⟨some 55,none,.ld none (.t 54)⟩,⟨some 56,none,.cv .i64 (.t 55)⟩,⟨some 57,none,.mov (.t 3)⟩,⟨some 58,none,.mov (.t 13)⟩,⟨some 59,none,.mov (.t 14)⟩,⟨some 60,none,.fa 530 (.t 4)⟩,⟨some 61,none,.ia 8 64 (.t 60) (.t 57)⟩,⟨some 62,none,.ia 8 8 (.t 61) (.t 58)⟩,⟨some 63,none,.ia 8 1 (.t 62) (.t 59)⟩,⟨some 64,none,.ld none (.t 63)⟩,⟨some 65,none,.cv .i64 (.t 64)⟩,⟨some 66,none,.bin .mul (.t 56) (.t 65)⟩,⟨some 67,none,.fa 0 (.t 4)⟩,⟨some 68,none,.ld none (.t 67)⟩,⟨some 69,none,.bin .rem (.t 66) (.t 68)⟩,⟨some 70,none,.mov (.t 11)⟩,⟨some 71,none,.mov (.t 13)⟩,⟨some 72,none,.ia 8 8 (.t 5) (.t 70)⟩,⟨some 73,none,.ia 8 1 (.t 72) (.t 71)⟩,⟨some 74,none,.ld none (.t 73)⟩,⟨some 75,none,.cv .i64 (.t 74)⟩,⟨some 76,none,.bin .mul (.t 69) (.t 75)⟩,⟨some 77,none,.fa 0 (.t 4)⟩,⟨some 78,none,.ld none (.t 77)⟩,⟨some 79,none,.bin .rem (.t 76) (.t 78)⟩,⟨some 15,none,.mov (.t 79)⟩]) (.seq (.reg [⟨some 80,none,.mov (.t 15)⟩,⟨some 81,none,.bin .neq (.t 80) (.c (.int .i64 0))⟩]) (.cond (.t 81) (.drw true [10,11] [⟨some 82,none,.fa 0 (.t 4)⟩,⟨some 83,none,.ld none (.t 82)⟩,⟨some 84,none,.ld (some 8) (.t 9)⟩,⟨some 85,none,.mov (.t 12)⟩,⟨some 86,none,.mov (.t 14)⟩,⟨some 87,none,.fa 10 (.t 4)⟩,⟨some 88,none,.ia 8 64 (.t 87) (.t 85)⟩,⟨some 89,none,.ia 8 8 (.t 88) (.t 86)⟩,⟨some 90,none,.ld (some 8) (.t 89)⟩,⟨some 91,none,.mov (.t 15)⟩,⟨some 92,none,.call 47 [(.t 83),(.t 84),(.t 90),(.t 91)]⟩,⟨none,none,.st 8 (.t 9) (.t 92)⟩]) .skip)))) (.reg [⟨some 46,none,.mov (.t 14)⟩,⟨some 47,none,.bin .add (.t 46) (.c (.int .i64 1))⟩,⟨some 14,none,.mov (.t 47)⟩]))))))) (.reg [⟨some 41,none,.mov (.t 13)⟩,⟨some 42,none,.bin .add (.t 41) (.c (.int .i64 1))⟩,⟨some 13,none,.mov (.t 42)⟩])))))))) (.reg [⟨some 27,none,.mov (.t 12)⟩,⟨some 28,none,.bin .add (.t 27) (.c (.int .i64 1))⟩,⟨some 12,none,.mov (.t 28)⟩]))))))) (.reg [⟨some 22,none,.mov (.t 11)⟩,⟨some 23,none,.bin .add (.t 22) (.c (.int .i64 1))⟩,⟨some 11,none,.mov (.t 23)⟩])))))) (.seq (.reg [⟨some 93,none,.ld (some 8) (.t 9)⟩,⟨none,none,.st 8 (.t 8) (.t 93)⟩]) .ret))))
set_option maxRecDepth 100000 in
theorem tr84 : trFn Tryz.prog Tryz.f84 = some (94, ir84, [.cell (some 8) 8]) := by kernel_rfl
theorem spec_l10Product (h : HT) (a : Nat) (S : Nat → Int) (i j : Nat) (hi : i < 8) (hj : j < 8) (K : Nat → SV) (H : Hp) (n : Nat) (hS : HS h a) (hK : h.At K) (hB : h.By) (hSb : isBy 64 S) :
    FnS Tryz.prog 84 [.arr 1106 K, .arr 64 (bys S), i64 i, i64 j] H n (fun r H' _ => r = .arr 8 (bys (leg h.p h.m h.c S i j)) ∧ H' = H) := by
  have hp := hS.hp
  have ha := hS.ha
  have hk0 := hK.p
  have hk1 := hK.n
  rw [hS.hn] at hk1
  have hk5 := hK.c
  have hk6 := hK.m
  refine FnS.of_body Tryz.func84 tr84 (by simp) (fun hf => ?_)
  dsimp only [argEnv]
  unfold ir84
  (repeat first|refine zG ?_|(refine LS.nilO ?_;intro nq hnq hltq;try refine zU ?_)|(refine MS.new ?_;intro bq hbq hbqf;try refine zU ?_)|(refine MS.nil ?_;intro nq hnq hltq;have hlq:=hltq _ _ (Hp.get_eq _ _ _);clear hltq;try refine zU ?_)|(refine LS.nilQ ?_;try with_reducible intro nq hnq;try refine zU ?_))
  revert bq
  intro b1 hb1 hb1f hl1
  refine CS.iter a (fun A => [(11, i64 A), (2, i64 i), (3, i64 j), (4, ptr n 0), (5, ptr (n + 1) 0), (8, ptr (n + 2) 0), (9, ptr b1 0), (10, i64 a)])
    (fun A => (b1, ⟨8, bys (lg h.p h.m h.c S i j (8 * A) 0), 27⟩) :: (n + 2, ⟨8, bys (fun _ => 0), 27⟩) :: (n + 1, ⟨64, bys S, 29⟩) :: (n, ⟨1106, K, 35⟩) :: H) (fun _ => True) (by (repeat first | exact trivial | refine And.intro rfl ?_))
    (Drops.keepc rfl rfl (fun _ _ => by rw [show lg h.p h.m h.c S i j (8 * 0) 0 = fun _ => 0 from lg_zero _ _ _ _ _ _]; rfl) (Drops.keepc rfl rfl (fun _ _ => rfl) (Drops.refl _ _))) trivial ?_
  intro A n3 hA hn _
  (repeat first|refine zG ?_|(refine LS.nilO ?_;intro nq hnq hltq;try refine zU ?_)|(refine MS.new ?_;intro bq hbq hbqf;try refine zU ?_)|(refine MS.nil ?_;intro nq hnq hltq;have hlq:=hltq _ _ (Hp.get_eq _ _ _);clear hltq;try refine zU ?_)|(refine LS.nilQ ?_;try with_reducible intro nq hnq;try refine zU ?_))
  refine zI ?_ ?_<;>intro h2
  · (repeat first|refine zG ?_|(refine LS.nilO ?_;intro nq hnq hltq;try refine zU ?_)|(refine MS.new ?_;intro bq hbq hbqf;try refine zU ?_)|(refine MS.nil ?_;intro nq hnq hltq;have hlq:=hltq _ _ (Hp.get_eq _ _ _);clear hltq;try refine zU ?_)|(refine LS.nilQ ?_;try with_reducible intro nq hnq;try refine zU ?_))
    refine CS.iter a (fun B => [(12, i64 B), (11, i64 A), (2, i64 i), (3, i64 j), (4, ptr n 0), (5, ptr (n + 1) 0), (8, ptr (n + 2) 0), (9, ptr b1 0), (10, i64 a)])
      (fun B => (b1, ⟨8, bys (lg h.p h.m h.c S i j (8 * A + B) 0), 27⟩) :: (n + 2, ⟨8, bys (fun _ => 0), 27⟩) :: (n + 1, ⟨64, bys S, 29⟩) :: (n, ⟨1106, K, 35⟩) :: H) (fun _ => True) (by (repeat first | exact trivial | refine And.intro rfl ?_))
      (Drops.refl _ _) trivial ?_
    intro B n4 hBB hn4 _
    (repeat first|refine zG ?_|(refine LS.nilO ?_;intro nq hnq hltq;try refine zU ?_)|(refine MS.new ?_;intro bq hbq hbqf;try refine zU ?_)|(refine MS.nil ?_;intro nq hnq hltq;have hlq:=hltq _ _ (Hp.get_eq _ _ _);clear hltq;try refine zU ?_)|(refine LS.nilQ ?_;try with_reducible intro nq hnq;try refine zU ?_))
    refine zI ?_ ?_<;>intro h3
    · have hct := hB.c (64 * i + 8 * A + B) (by omega)
      (repeat first|refine zG ?_|(refine LS.nilO ?_;intro nq hnq hltq;try refine zU ?_)|(refine MS.new ?_;intro bq hbq hbqf;try refine zU ?_)|(refine MS.nil ?_;intro nq hnq hltq;have hlq:=hltq _ _ (Hp.get_eq _ _ _);clear hltq;try refine zU ?_)|(refine LS.nilQ ?_;try with_reducible intro nq hnq;try refine zU ?_))
      refine zI ?_ ?_<;>intro h4
      · (repeat first|refine zG ?_|(refine LS.nilO ?_;intro nq hnq hltq;try refine zU ?_)|(refine MS.new ?_;intro bq hbq hbqf;try refine zU ?_)|(refine MS.nil ?_;intro nq hnq hltq;have hlq:=hltq _ _ (Hp.get_eq _ _ _);clear hltq;try refine zU ?_)|(refine LS.nilQ ?_;try with_reducible intro nq hnq;try refine zU ?_))
        exact ⟨by omega, by (repeat first | exact trivial | refine And.intro rfl ?_), Drops.keepc rfl rfl (fun q hq => by rw [lg_moreT (t := 8 * A + B) (t' := 8 * A + (B + 1)) (by omega) (fun u u1 u2 => by (obtain rfl : u = 8 * A + B := by omega); rw [← Nat.add_assoc]; exact h4)]) (Drops.refl _ _), trivial⟩
      · (repeat first|refine zG ?_|(refine LS.nilO ?_;intro nq hnq hltq;try refine zU ?_)|(refine MS.new ?_;intro bq hbq hbqf;try refine zU ?_)|(refine MS.nil ?_;intro nq hnq hltq;have hlq:=hltq _ _ (Hp.get_eq _ _ _);clear hltq;try refine zU ?_)|(refine LS.nilQ ?_;try with_reducible intro nq hnq;try refine zU ?_))
        refine CS.iter a (fun C => [(13, i64 C), (12, i64 B), (11, i64 A), (2, i64 i), (3, i64 j), (4, ptr n 0), (5, ptr (n + 1) 0), (8, ptr (n + 2) 0), (9, ptr b1 0), (10, i64 a)])
          (fun C => (b1, ⟨8, bys (lg h.p h.m h.c S i j (8 * A + B) (8 * C)), 27⟩) :: (n + 2, ⟨8, bys (fun _ => 0), 27⟩) :: (n + 1, ⟨64, bys S, 29⟩) :: (n, ⟨1106, K, 35⟩) :: H) (fun _ => True) (by (repeat first | exact trivial | refine And.intro rfl ?_))
          (Drops.refl _ _) trivial ?_
        intro C n5 hC hn5 _
        (repeat first|refine zG ?_|(refine LS.nilO ?_;intro nq hnq hltq;try refine zU ?_)|(refine MS.new ?_;intro bq hbq hbqf;try refine zU ?_)|(refine MS.nil ?_;intro nq hnq hltq;have hlq:=hltq _ _ (Hp.get_eq _ _ _);clear hltq;try refine zU ?_)|(refine LS.nilQ ?_;try with_reducible intro nq hnq;try refine zU ?_))
        refine zI ?_ ?_<;>intro h5
        · (repeat first|refine zG ?_|(refine LS.nilO ?_;intro nq hnq hltq;try refine zU ?_)|(refine MS.new ?_;intro bq hbq hbqf;try refine zU ?_)|(refine MS.nil ?_;intro nq hnq hltq;have hlq:=hltq _ _ (Hp.get_eq _ _ _);clear hltq;try refine zU ?_)|(refine LS.nilQ ?_;try with_reducible intro nq hnq;try refine zU ?_))
          refine CS.iter a (fun D => [(14, i64 D), (13, i64 C), (12, i64 B), (11, i64 A), (2, i64 i), (3, i64 j), (4, ptr n 0), (5, ptr (n + 1) 0), (8, ptr (n + 2) 0), (9, ptr b1 0), (10, i64 a)])
            (fun D => (b1, ⟨8, bys (lg h.p h.m h.c S i j (8 * A + B) (8 * C + D)), 27⟩) :: (n + 2, ⟨8, bys (fun _ => 0), 27⟩) :: (n + 1, ⟨64, bys S, 29⟩) :: (n, ⟨1106, K, 35⟩) :: H) (fun _ => True) (by (repeat first | exact trivial | refine And.intro rfl ?_))
            (Drops.refl _ _) trivial ?_
          intro D n6 hD hn6 _
          (repeat first|refine zG ?_|(refine LS.nilO ?_;intro nq hnq hltq;try refine zU ?_)|(refine MS.new ?_;intro bq hbq hbqf;try refine zU ?_)|(refine MS.nil ?_;intro nq hnq hltq;have hlq:=hltq _ _ (Hp.get_eq _ _ _);clear hltq;try refine zU ?_)|(refine LS.nilQ ?_;try with_reducible intro nq hnq;try refine zU ?_))
          refine zI ?_ ?_<;>intro h6
          · have q1 := hB.c (64 * j + 8 * C + D) (by omega)
            have q2 := mulB hct.1 hct.2 q1.1 q1.2
            have q3 := modB (h.c (64 * i + 8 * A + B) * h.c (64 * j + 8 * C + D)) hp.1
            have q4 := hSb (8 * A + C) (by omega)
            have q5 := mulB q3.1 (show _ ≤ 31 by omega) q4.1 q4.2
            have q6 := modB (h.c (64 * i + 8 * A + B) * h.c (64 * j + 8 * C + D) % h.p * S (8 * A + C)) hp.1
            (repeat first|refine zG ?_|(refine LS.nilO ?_;intro nq hnq hltq;try refine zU ?_)|(refine MS.new ?_;intro bq hbq hbqf;try refine zU ?_)|(refine MS.nil ?_;intro nq hnq hltq;have hlq:=hltq _ _ (Hp.get_eq _ _ _);clear hltq;try refine zU ?_)|(refine LS.nilQ ?_;try with_reducible intro nq hnq;try refine zU ?_))
            refine zI ?_ ?_<;>intro h7
            · (repeat first|refine zG ?_|(refine LS.nilO ?_;intro nq hnq hltq;try refine zU ?_)|(refine MS.new ?_;intro bq hbq hbqf;try refine zU ?_)|(refine MS.nil ?_;intro nq hnq hltq;have hlq:=hltq _ _ (Hp.get_eq _ _ _);clear hltq;try refine zU ?_)|(refine LS.nilQ ?_;try with_reducible intro nq hnq;try refine zU ?_))
              refine RS.call rfl ((spec_l01Add h.p (h.c (64 * i + 8 * A + B) * h.c (64 * j + 8 * C + D) % h.p * S (8 * A + C) % h.p) (lg h.p h.m h.c S i j (8 * A + B) (8 * C + D)) (fun y => h.m (64 * B + 8 * D + y)) _ _ hp ((lg_res hp.1 _ _ _ _ _ _ _ 8).by hp.2) (hB.rowm (by omega) (by omega)) (by omega)).mono ?_)
              rintro r H' n7 hn7 ⟨rfl, rfl⟩
              (repeat first|refine zG ?_|(refine LS.nilO ?_;intro nq hnq hltq;try refine zU ?_)|(refine MS.new ?_;intro bq hbq hbqf;try refine zU ?_)|(refine MS.nil ?_;intro nq hnq hltq;have hlq:=hltq _ _ (Hp.get_eq _ _ _);clear hltq;try refine zU ?_)|(refine LS.nilQ ?_;try with_reducible intro nq hnq;try refine zU ?_))
              exact ⟨by omega, by (repeat first | exact trivial | refine And.intro rfl ?_), Drops.keepc rfl rfl (fun q hq => by rw [lg_stepM _ _ _ _ _ _ _ _ _ _ (by omega) (by omega)]) (Drops.refl _ _), trivial⟩
            · (repeat first|refine zG ?_|(refine LS.nilO ?_;intro nq hnq hltq;try refine zU ?_)|(refine MS.new ?_;intro bq hbq hbqf;try refine zU ?_)|(refine MS.nil ?_;intro nq hnq hltq;have hlq:=hltq _ _ (Hp.get_eq _ _ _);clear hltq;try refine zU ?_)|(refine LS.nilQ ?_;try with_reducible intro nq hnq;try refine zU ?_))
              exact ⟨by omega, by (repeat first | exact trivial | refine And.intro rfl ?_), Drops.keepc rfl rfl (fun q hq => by rw [lg_sameM hp.1 (by omega) (by omega) h7]) (Drops.refl _ _), trivial⟩
          · have : D = a := by omega
            subst this
            (repeat first|refine zG ?_|(refine LS.nilO ?_;intro nq hnq hltq;try refine zU ?_)|(refine MS.new ?_;intro bq hbq hbqf;try refine zU ?_)|(refine MS.nil ?_;intro nq hnq hltq;have hlq:=hltq _ _ (Hp.get_eq _ _ _);clear hltq;try refine zU ?_)|(refine LS.nilQ ?_;try with_reducible intro nq hnq;try refine zU ?_))
            exact ⟨by omega, by (repeat first | exact trivial | refine And.intro rfl ?_), Drops.keepc rfl rfl (fun q hq => by rw [lg_moreS (s := 8 * C + D) (s' := 8 * (C + 1)) (by omega) (fun u u1 u2 => hS.cm.gap (by omega) (by omega) u1 u2)]) (Drops.refl _ _), trivial⟩
        · have : C = a := by omega
          subst this
          (repeat first|refine zG ?_|(refine LS.nilO ?_;intro nq hnq hltq;try refine zU ?_)|(refine MS.new ?_;intro bq hbq hbqf;try refine zU ?_)|(refine MS.nil ?_;intro nq hnq hltq;have hlq:=hltq _ _ (Hp.get_eq _ _ _);clear hltq;try refine zU ?_)|(refine LS.nilQ ?_;try with_reducible intro nq hnq;try refine zU ?_))
          exact ⟨by omega, by (repeat first | exact trivial | refine And.intro rfl ?_), Drops.keepc rfl rfl (fun q hq => by
            rw [show 8 * A + (B + 1) = 8 * A + B + 1 from rfl, ← lg_next, lg_moreS (s := 8 * C) (s' := 64) (by omega) (fun u u1 u2 => hS.cm.at (by omega) u2 (.inr u1))]) (Drops.refl _ _), trivial⟩
    · have : B = a := by omega
      subst this
      (repeat first|refine zG ?_|(refine LS.nilO ?_;intro nq hnq hltq;try refine zU ?_)|(refine MS.new ?_;intro bq hbq hbqf;try refine zU ?_)|(refine MS.nil ?_;intro nq hnq hltq;have hlq:=hltq _ _ (Hp.get_eq _ _ _);clear hltq;try refine zU ?_)|(refine LS.nilQ ?_;try with_reducible intro nq hnq;try refine zU ?_))
      exact ⟨by omega, by (repeat first | exact trivial | refine And.intro rfl ?_), Drops.keepc rfl rfl (fun q hq => by rw [lg_moreT (t := 8 * A + B) (t' := 8 * (A + 1)) (by omega) (fun u u1 u2 => hS.cm.gap (by omega) (by omega) u1 u2)]) (Drops.refl _ _), trivial⟩
  · have : A = a := by omega
    subst this
    (repeat first|refine zG ?_|(refine LS.nilO ?_;intro nq hnq hltq;try refine zU ?_)|(refine MS.new ?_;intro bq hbq hbqf;try refine zU ?_)|(refine MS.nil ?_;intro nq hnq hltq;have hlq:=hltq _ _ (Hp.get_eq _ _ _);clear hltq;try refine zU ?_)|(refine LS.nilQ ?_;try with_reducible intro nq hnq;try refine zU ?_))
    exact ⟨.arr 8 (bys (leg h.p h.m h.c S i j)), H, conc_arr (fun q hq => by
      simp only [Nat.zero_add]
      rw [leg, lg_moreT (t := 8 * A) (t' := 64) (by omega) (fun u u1 u2 => hS.cm.at (by omega) u2 (.inr u1))]), by exact zD, rfl, rfl⟩
end Go.Proofs.YtbknndbfbebkdabGreatR
