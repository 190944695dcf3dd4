/- Contracts of the program's functions. -/
import Derived.Test.YtbknndbfbebkdabGreatRR
import Derived.Test.YtbknndbfbebkdabGreatRLW
import Derived.Test.YtbknndbfbebkdabGreatRE1a
import Derived.Test.YtbknndbfbebkdabGreatRE1b
import Derived.Test.YtbknndbfbebkdabGreatRE1c
namespace Go.Proofs.YtbknndbfbebkdabGreatR
open Go.V
set_option linter.unusedSimpArgs false
set_option linter.unusedVariables false
set_option maxHeartbeats 4000000
/-- (impl.field).apply -/
def ir53 : Cd := (.seq (.reg [⟨some 3,none,.box 85 (.t 0)⟩,⟨some 5,none,.box 27 (.t 2)⟩,⟨some 6,none,.new 27 [(8,(.int .u8 0))]⟩]) (.seq (.reg [⟨some 10,none,.build 8 [(8,(.int .u8 0))] []⟩,⟨some 7,none,.new 27 [(8,(.int .u8 0))]⟩,⟨none,none,.st 8 (.t 7) (.t 10)⟩]) (.seq (.seq (.reg [⟨some 11,none,.ld (some 8) (.t 5)⟩,⟨some 12,none,.mov (.c (.int .i64 0))⟩]) (.block 0 (.loop (.seq (.reg [⟨some 13,none,.bin .lss (.t 12) (.c (.int .i64 8))⟩]) (.seq (.cond (.t 13) .skip (.exit 0)) (.seq (.block 1 (.seq (.reg [⟨some 14,none,.mov (.t 12)⟩,⟨some 15,none,.ix 8 1 none (.t 11) (.t 12)⟩,⟨some 8,none,.mov (.t 14)⟩,⟨some 9,none,.mov (.t 15)⟩]) (.drw true [8] [⟨some 16,none,.ld (some 2) (.t 3)⟩,⟨some 17,none,.mov (.t 9)⟩,⟨some 18,none,.cv .i64 (.t 17)⟩,⟨some 19,none,.mov (.t 1)⟩,⟨some 20,none,.mov (.t 8)⟩,⟨some 21,none,.ck (.t 19)⟩,⟨some 22,none,.ia 8 8 (.t 21) (.t 20)⟩,⟨some 23,none,.ld (some 8) (.t 22)⟩,⟨some 24,none,.call 50 [(.t 16),(.t 7),(.t 18),(.t 23)]⟩]))) (.reg [⟨some 25,none,.bin .add (.t 12) (.c (.int .i64 1))⟩,⟨some 12,none,.mov (.t 25)⟩]))))))) (.seq (.reg [⟨some 26,none,.ld (some 8) (.t 7)⟩,⟨none,none,.st 8 (.t 6) (.t 26)⟩]) .ret))))
set_option maxRecDepth 100000 in
theorem tr53 : trFn Tryz.prog Tryz.f53 = some (27, ir53, [.cell (some 8) 6]) := by kernel_rfl
theorem field_apply (p n' : Int) (l v : Nat → Int) (b o : Nat) (K : Blk) (H : Hp) (n : Nat) (hp : 2 ≤ p ∧ p ≤ 31) (hb : H.get b = some K) (ho : o + 64 ≤ K.size)
    (hc : ∀ i, i < 64 → K.c (o + i) = .int .u8 (l i)) (hl : isBy 64 l) (hv : isBy 8 v) :
    FnS Tryz.prog 53 [fld p n', ptr b o, .arr 8 (bys v)] H n (fun r H' _ => r = .arr 8 (bys (app p l v)) ∧ H' = H) := by
  refine FnS.of_body Tryz.func53 tr53 (by simp) (fun hf => ?_)
  dsimp only [argEnv]
  unfold ir53
  have hbn : b < n := by
    rcases Nat.lt_or_ge b n with h | h
    · exact h
    · rw [hf b h] at hb; cases hb
  (repeat first|refine zG ?_|(refine LS.nilO ?_;intro nq hnq hltq;try refine zU ?_)|(refine MS.new ?_;intro bq hbq hbqf;try refine zU ?_)|(refine MS.nil ?_;intro nq hnq hltq;have hlq:=hltq _ _ (Hp.get_eq _ _ _);clear hltq;try refine zU ?_)|(refine LS.nilQ ?_;try with_reducible intro nq hnq;try refine zU ?_))
  refine CS.iter 8 (fun i => [(12, i64 i), (11, .arr 8 (bys v)), (1, ptr b o), (3, ptr n 0), (6, ptr (n + 2) 0), (7, ptr (n + 3) 0)])
    (fun i => (n + 3, ⟨8, bys (apk p l v i), 27⟩) :: (n + 2, ⟨8, bys (fun _ => 0), 27⟩) :: (n + 1, ⟨8, bys v, 27⟩) :: (n, ⟨2, fldC p n', 85⟩) :: H) (fun _ => True) (by (repeat first | exact trivial | refine And.intro rfl ?_))
    (Drops.keepc rfl rfl (fun _ _ => by rw [apk_zero]; rfl) (Drops.keepc rfl rfl (fun _ _ => rfl) (Drops.refl _ _))) trivial ?_
  intro i n1 hi hn _
  (repeat first|refine zG ?_|(refine LS.nilO ?_;intro nq hnq hltq;try refine zU ?_)|(refine MS.new ?_;intro bq hbq hbqf;try refine zU ?_)|(refine MS.nil ?_;intro nq hnq hltq;have hlq:=hltq _ _ (Hp.get_eq _ _ _);clear hltq;try refine zU ?_)|(refine LS.nilQ ?_;try with_reducible intro nq hnq;try refine zU ?_))
  refine zI ?_ ?_<;>intro h1
  · have hvi := hv i (by omega)
    (repeat first|refine zG ?_|(refine LS.nilO ?_;intro nq hnq hltq;try refine zU ?_)|(refine MS.new ?_;intro bq hbq hbqf;try refine zU ?_)|(refine MS.nil ?_;intro nq hnq hltq;have hlq:=hltq _ _ (Hp.get_eq _ _ _);clear hltq;try refine zU ?_)|(refine LS.nilQ ?_;try with_reducible intro nq hnq;try refine zU ?_))
    refine RS.call rfl ((field_plus p n' (v i) (apk p l v i) (fun x => l (8 * i + x)) (n + 3) 0 ⟨8, bys (apk p l v i), 27⟩ _ _ hp (by exact zH) (by simp) (fun _ _ => by rw [Nat.zero_add]; rfl) (apk_res hp.1 _ _ _ _) (fun x hx => hl _ (by omega)) (by omega)).mono ?_)
    rintro r H' n2 hn2 ⟨rfl, rfl⟩
    simp (disch := omega) only [Hp.set_eq, Hp.set_ne]
    (repeat first|refine zG ?_|(refine LS.nilO ?_;intro nq hnq hltq;try refine zU ?_)|(refine MS.new ?_;intro bq hbq hbqf;try refine zU ?_)|(refine MS.nil ?_;intro nq hnq hltq;have hlq:=hltq _ _ (Hp.get_eq _ _ _);clear hltq;try refine zU ?_)|(refine LS.nilQ ?_;try with_reducible intro nq hnq;try refine zU ?_))
    exact ⟨by omega, by (repeat first | exact trivial | refine And.intro rfl ?_), Drops.keepc rfl rfl (fun q hq => (splice_all _ _ 8 q hq).trans (by rw [apk_step])) (Drops.refl _ _), trivial⟩
  · have : i = 8 := by omega
    subst this
    (repeat first|refine zG ?_|(refine LS.nilO ?_;intro nq hnq hltq;try refine zU ?_)|(refine MS.new ?_;intro bq hbq hbqf;try refine zU ?_)|(refine MS.nil ?_;intro nq hnq hltq;have hlq:=hltq _ _ (Hp.get_eq _ _ _);clear hltq;try refine zU ?_)|(refine LS.nilQ ?_;try with_reducible intro nq hnq;try refine zU ?_))
    exact ⟨.arr 8 (bys (app p l v)), H, conc_arr (fun q hq => by simp only [Nat.zero_add]; rfl), by exact zD, rfl, rfl⟩
/-- spec.l01Apply -/
def ir29 : Cd := (.seq (.reg [⟨some 6,none,.box 29 (.t 2)⟩,⟨some 7,none,.box 27 (.t 3)⟩,⟨some 8,none,.new 27 [(8,(.int .u8 0))]⟩]) (.seq (.reg [⟨some 11,none,.build 8 [(8,(.int .u8 0))] []⟩,⟨some 9,none,.new 27 [(8,(.int .u8 0))]⟩,⟨none,none,.st 8 (.t 9) (.t 11)⟩]) (.seq (.seq (.reg [⟨some 10,none,.mov (.c (.int .i64 0))⟩]) (.block 0 (.loop (.seq (.seq (.reg [⟨some 12,none,.mov (.t 10)⟩,⟨some 13,none,.mov (.t 1)⟩,⟨some 14,none,.bin .lss (.t 12) (.t 13)⟩]) (.cond (.t 14) .skip (.exit 0))) (.seq (.block 1 (.seq (.reg [⟨some 17,none,.mov (.t 10)⟩,⟨some 18,none,.ia 8 1 (.t 7) (.t 17)⟩,⟨some 19,none,.ld none (.t 18)⟩,⟨some 20,none,.bin .neq (.t 19) (.c (.int .u8 0))⟩]) (.cond (.t 20) (.drw true [9,10] [⟨some 21,none,.mov (.t 0)⟩,⟨some 22,none,.ld (some 8) (.t 9)⟩,⟨some 23,none,.mov (.t 10)⟩,⟨some 24,none,.ia 8 8 (.t 6) (.t 23)⟩,⟨some 25,none,.ld (some 8) (.t 24)⟩,⟨some 26,none,.mov (.t 10)⟩,⟨some 27,none,.ia 8 1 (.t 7) (.t 26)⟩,⟨some 28,none,.ld none (.t 27)⟩,⟨some 29,none,.cv .i64 (.t 28)⟩,⟨some 30,none,.call 47 [(.t 21),(.t 22),(.t 25),(.t 29)]⟩,⟨none,none,.st 8 (.t 9) (.t 30)⟩]) .skip))) (.reg [⟨some 15,none,.mov (.t 10)⟩,⟨some 16,none,.bin .add (.t 15) (.c (.int .i64 1))⟩,⟨some 10,none,.mov (.t 16)⟩])))))) (.seq (.reg [⟨some 31,none,.ld (some 8) (.t 9)⟩,⟨none,none,.st 8 (.t 8) (.t 31)⟩]) .ret))))
set_option maxRecDepth 100000 in
theorem tr29 : trFn Tryz.prog Tryz.f29 = some (32, ir29, [.cell (some 8) 8]) := by kernel_rfl
theorem spec_l01Apply (p : Int) (m : Nat) (l v : Nat → Int) (H : Hp) (n : Nat) (hp : 2 ≤ p ∧ p ≤ 31) (hm : m ≤ 8) (hl : isBy 64 l) (hv : isBy 8 v) :
    FnS Tryz.prog 29 [i64 p, i64 m, .arr 64 (bys l), .arr 8 (bys v)] H n (fun r H' _ => r = .arr 8 (bys (apk p l v m)) ∧ H' = H) := by
  refine FnS.of_body Tryz.func29 tr29 (by simp) (fun hf => ?_)
  dsimp only [argEnv]
  unfold ir29
  (repeat first|refine zG ?_|(refine LS.nilO ?_;intro nq hnq hltq;try refine zU ?_)|(refine MS.new ?_;intro bq hbq hbqf;try refine zU ?_)|(refine MS.nil ?_;intro nq hnq hltq;have hlq:=hltq _ _ (Hp.get_eq _ _ _);clear hltq;try refine zU ?_)|(refine LS.nilQ ?_;try with_reducible intro nq hnq;try refine zU ?_))
  refine CS.iter m (fun i => [(10, i64 i), (0, i64 p), (1, i64 m), (6, ptr n 0), (7, ptr (n + 1) 0), (8, ptr (n + 2) 0), (9, ptr (n + 3) 0)])
    (fun i => (n + 3, ⟨8, bys (apk p l v i), 27⟩) :: (n + 2, ⟨8, bys (fun _ => 0), 27⟩) :: (n + 1, ⟨8, bys v, 27⟩) :: (n, ⟨64, bys l, 29⟩) :: H) (fun _ => True) (by (repeat first | exact trivial | refine And.intro rfl ?_))
    (Drops.keepc rfl rfl (fun _ _ => by rw [apk_zero]; rfl) (Drops.keepc rfl rfl (fun _ _ => rfl) (Drops.refl _ _))) trivial ?_
  intro i n1 hi hn _
  (repeat first|refine zG ?_|(refine LS.nilO ?_;intro nq hnq hltq;try refine zU ?_)|(refine MS.new ?_;intro bq hbq hbqf;try refine zU ?_)|(refine MS.nil ?_;intro nq hnq hltq;have hlq:=hltq _ _ (Hp.get_eq _ _ _);clear hltq;try refine zU ?_)|(refine LS.nilQ ?_;try with_reducible intro nq hnq;try refine zU ?_))
  refine zI ?_ ?_<;>intro h1
  · have hvi := hv i (by omega)
    (repeat first|refine zG ?_|(refine LS.nilO ?_;intro nq hnq hltq;try refine zU ?_)|(refine MS.new ?_;intro bq hbq hbqf;try refine zU ?_)|(refine MS.nil ?_;intro nq hnq hltq;have hlq:=hltq _ _ (Hp.get_eq _ _ _);clear hltq;try refine zU ?_)|(refine LS.nilQ ?_;try with_reducible intro nq hnq;try refine zU ?_))
    refine zI ?_ ?_<;>intro h2
    · (repeat first|refine zG ?_|(refine LS.nilO ?_;intro nq hnq hltq;try refine zU ?_)|(refine MS.new ?_;intro bq hbq hbqf;try refine zU ?_)|(refine MS.nil ?_;intro nq hnq hltq;have hlq:=hltq _ _ (Hp.get_eq _ _ _);clear hltq;try refine zU ?_)|(refine LS.nilQ ?_;try with_reducible intro nq hnq;try refine zU ?_))
      refine RS.call rfl ((spec_l01Add p (v i) (apk p l v i) (fun x => l (8 * i + x)) _ _ hp (fun q hq => by have := apk_res hp.1 l v i 8 q hq; omega) (fun x hx => hl _ (by omega)) (by omega)).mono ?_)
      rintro r H' n2 hn2 ⟨rfl, rfl⟩
      (repeat first|refine zG ?_|(refine LS.nilO ?_;intro nq hnq hltq;try refine zU ?_)|(refine MS.new ?_;intro bq hbq hbqf;try refine zU ?_)|(refine MS.nil ?_;intro nq hnq hltq;have hlq:=hltq _ _ (Hp.get_eq _ _ _);clear hltq;try refine zU ?_)|(refine LS.nilQ ?_;try with_reducible intro nq hnq;try refine zU ?_))
      exact ⟨by omega, by (repeat first | exact trivial | refine And.intro rfl ?_), Drops.keepc rfl rfl (fun q hq => by rw [apk_step]) (Drops.refl _ _), trivial⟩
    · (repeat first|refine zG ?_|(refine LS.nilO ?_;intro nq hnq hltq;try refine zU ?_)|(refine MS.new ?_;intro bq hbq hbqf;try refine zU ?_)|(refine MS.nil ?_;intro nq hnq hltq;have hlq:=hltq _ _ (Hp.get_eq _ _ _);clear hltq;try refine zU ?_)|(refine LS.nilQ ?_;try with_reducible intro nq hnq;try refine zU ?_))
      exact ⟨by omega, by (repeat first | exact trivial | refine And.intro rfl ?_), by rw [apk_same h2]; exact Drops.refl _ _, trivial⟩
  · have : i = m := by omega
    subst this
    (repeat first|refine zG ?_|(refine LS.nilO ?_;intro nq hnq hltq;try refine zU ?_)|(refine MS.new ?_;intro bq hbq hbqf;try refine zU ?_)|(refine MS.nil ?_;intro nq hnq hltq;have hlq:=hltq _ _ (Hp.get_eq _ _ _);clear hltq;try refine zU ?_)|(refine LS.nilQ ?_;try with_reducible intro nq hnq;try refine zU ?_))
    exact ⟨.arr 8 (bys (apk p l v i)), H, conc_arr (fun q hq => by simp only [Nat.zero_add]), by exact zD, rfl, rfl⟩
/-- spec.l01Sizes -/
def ir116 : Cd := (.seq (.reg [⟨some 4,none,.mov (.c (.bool false))⟩]) (.seq (.reg [⟨some 5,none,.mov (.t 0)⟩,⟨some 6,none,.call 131 [(.t 5)]⟩,⟨some 7,none,.mov (.t 6)⟩,⟨some 8,(some (7,true)),.mov (.t 1)⟩,⟨some 9,(some (7,true)),.call 132 [(.t 8),(.c (.int .i64 1)),(.c (.int .i64 8))]⟩,⟨some 10,none,.pick (.t 7) (.t 9) (.c (.bool false))⟩,⟨some 4,none,.mov (.t 10)⟩]) .ret))
set_option maxRecDepth 100000 in
theorem tr116 : trFn Tryz.prog Tryz.f116 = some (11, ir116, [.tmp 4]) := by kernel_rfl
theorem spec_l01Sizes (p n' : Int) (H : Hp) (n : Nat) :
    FnS Tryz.prog 116 [i64 p, i64 n'] H n (fun v H' _ => v = bl (tb (sz p n')) ∧ H' = H) := by
  refine FnS.of_body Tryz.func116 tr116 (by simp) (fun hf => ?_)
  dsimp only [argEnv]
  unfold ir116
  (repeat first|refine zG ?_|(refine LS.nilO ?_;intro nq hnq hltq;try refine zU ?_)|(refine MS.new ?_;intro bq hbq hbqf;try refine zU ?_)|(refine MS.nil ?_;intro nq hnq hltq;have hlq:=hltq _ _ (Hp.get_eq _ _ _);clear hltq;try refine zU ?_)|(refine LS.nilQ ?_;try with_reducible intro nq hnq;try refine zU ?_))
  refine RS.call rfl ((spec_l01Prime _ _ _).mono ?_)
  rintro r H' n2 hn2 ⟨rfl, rfl⟩
  (repeat first|refine zG ?_|(refine LS.nilO ?_;intro nq hnq hltq;try refine zU ?_)|(refine MS.new ?_;intro bq hbq hbqf;try refine zU ?_)|(refine MS.nil ?_;intro nq hnq hltq;have hlq:=hltq _ _ (Hp.get_eq _ _ _);clear hltq;try refine zU ?_)|(refine LS.nilQ ?_;try with_reducible intro nq hnq;try refine zU ?_))
  refine RS.sp (t := 7) rfl (fun h1 => ?_) (fun h1 => ?_) <;> (try simp only [tb_eq, tb_eqF, decide_eq_true_eq, decide_eq_false_iff_not, beq_iff_eq, bne_iff_ne, ne_eq, Decidable.not_not, beq_eq_false_iff_ne, bne_eq_false_iff_eq, Bool.not_eq_true', Bool.not_eq_false', Bool.not_eq_eq_eq_not, Bool.not_true, Bool.not_false] at h1)
  · (repeat first|refine zG ?_|(refine LS.nilO ?_;intro nq hnq hltq;try refine zU ?_)|(refine MS.new ?_;intro bq hbq hbqf;try refine zU ?_)|(refine MS.nil ?_;intro nq hnq hltq;have hlq:=hltq _ _ (Hp.get_eq _ _ _);clear hltq;try refine zU ?_)|(refine LS.nilQ ?_;try with_reducible intro nq hnq;try refine zU ?_))
    refine RS.call rfl ((spec_l01In _ _ _ _ _).mono ?_)
    rintro r H' n3 hn3 ⟨rfl, rfl⟩
    (repeat first|refine zG ?_|(refine LS.nilO ?_;intro nq hnq hltq;try refine zU ?_)|(refine MS.new ?_;intro bq hbq hbqf;try refine zU ?_)|(refine MS.nil ?_;intro nq hnq hltq;have hlq:=hltq _ _ (Hp.get_eq _ _ _);clear hltq;try refine zU ?_)|(refine LS.nilQ ?_;try with_reducible intro nq hnq;try refine zU ?_))
    exact ⟨_, _, rfl, by exact zD, by rw [tb_iff (R := 1 ≤ n' ∧ n' ≤ 8) ⟨fun h => h.2, fun h => ⟨h1, h⟩⟩, tb_dec], rfl⟩
  · (repeat first|refine zG ?_|(refine LS.nilO ?_;intro nq hnq hltq;try refine zU ?_)|(refine MS.new ?_;intro bq hbq hbqf;try refine zU ?_)|(refine MS.nil ?_;intro nq hnq hltq;have hlq:=hltq _ _ (Hp.get_eq _ _ _);clear hltq;try refine zU ?_)|(refine LS.nilQ ?_;try with_reducible intro nq hnq;try refine zU ?_))
    exact ⟨_, _, rfl, by exact zD, by rw [tb_false (fun h => by simp [h.1] at h1)], rfl⟩
/-- (*impl.Coalgebra).isCounit -/
def ir126 : Cd := (.seq (.reg [⟨some 2,none,.mov (.c (.bool false))⟩]) (.seq (.reg [⟨some 8,none,.mov (.t 0)⟩,⟨some 9,none,.call 138 [(.t 8)]⟩,⟨some 3,none,.new 85 [(2,(.int .i64 0))]⟩,⟨none,none,.st 2 (.t 3) (.t 9)⟩]) (.seq (.seq (.reg [⟨some 10,none,.fa 1 (.t 3)⟩,⟨some 11,none,.ld none (.t 10)⟩,⟨some 12,none,.mov (.c (.int .i64 0))⟩]) (.block 0 (.loop (.seq (.reg [⟨some 13,none,.bin .lss (.t 12) (.t 11)⟩]) (.seq (.cond (.t 13) .skip (.exit 0)) (.seq (.block 1 (.seq (.reg [⟨some 14,none,.mov (.t 12)⟩,⟨some 4,none,.mov (.t 14)⟩]) (.seq (.reg [⟨some 15,none,.build 8 [(8,(.int .u8 0))] []⟩,⟨some 16,none,.build 8 [(8,(.int .u8 0))] []⟩,⟨some 5,none,.new 27 [(8,(.int .u8 0))]⟩,⟨some 6,none,.new 27 [(8,(.int .u8 0))]⟩,⟨none,none,.st 8 (.t 5) (.t 15)⟩,⟨none,none,.st 8 (.t 6) (.t 16)⟩]) (.seq (.seq (.reg [⟨some 17,none,.fa 1 (.t 3)⟩,⟨some 18,none,.ld none (.t 17)⟩,⟨some 19,none,.mov (.c (.int .i64 0))⟩]) (.block 2 (.loop (.seq (.reg [⟨some 20,none,.bin .lss (.t 19) (.t 18)⟩]) (.seq (.cond (.t 20) .skip (.exit 2)) (.seq (.block 3 (.seq (.reg [⟨some 21,none,.mov (.t 19)⟩,⟨some 7,none,.mov (.t 21)⟩]) (.seq (.drw true [16] [⟨some 22,none,.ld (some 2) (.t 3)⟩,⟨some 23,none,.mov (.t 0)⟩,⟨some 24,none,.mov (.t 7)⟩,⟨some 25,none,.ck (.t 23)⟩,⟨some 26,none,.fa 2 (.t 25)⟩,⟨some 27,none,.ia 8 1 (.t 26) (.t 24)⟩,⟨some 28,none,.ld none (.t 27)⟩,⟨some 29,none,.cv .i64 (.t 28)⟩,⟨some 30,none,.mov (.t 0)⟩,⟨some 31,none,.mov (.t 4)⟩,⟨some 32,none,.mov (.t 7)⟩,⟨some 33,none,.ck (.t 30)⟩,⟨some 34,none,.fa 10 (.t 33)⟩,⟨some 35,none,.ia 8 64 (.t 34) (.t 31)⟩,⟨some 36,none,.ia 8 8 (.t 35) (.t 32)⟩,⟨some 37,none,.ld (some 8) (.t 36)⟩,⟨some 38,none,.call 50 [(.t 22),(.t 5),(.t 29),(.t 37)]⟩]) (.drw true [17] [⟨some 39,none,.mov (.t 7)⟩,⟨some 40,none,.ld (some 2) (.t 3)⟩,⟨some 41,none,.mov (.t 0)⟩,⟨some 42,none,.ck (.t 41)⟩,⟨some 43,none,.fa 2 (.t 42)⟩,⟨some 44,none,.ld (some 8) (.t 43)⟩,⟨some 45,none,.mov (.t 0)⟩,⟨some 46,none,.mov (.t 4)⟩,⟨some 47,none,.mov (.t 7)⟩,⟨some 48,none,.ck (.t 45)⟩,⟨some 49,none,.fa 10 (.t 48)⟩,⟨some 50,none,.ia 8 64 (.t 49) (.t 46)⟩,⟨some 51,none,.ia 8 8 (.t 50) (.t 47)⟩,⟨some 52,none,.ld (some 8) (.t 51)⟩,⟨some 53,none,.call 139 [(.t 40),(.t 44),(.t 52)]⟩,⟨some 54,none,.cv .u8 (.t 53)⟩,⟨some 55,none,.ia 8 1 (.t 6) (.t 39)⟩,⟨none,none,.st 1 (.t 55) (.t 54)⟩])))) (.reg [⟨some 56,none,.bin .add (.t 19) (.c (.int .i64 1))⟩,⟨some 19,none,.mov (.t 56)⟩]))))))) (.seq (.drw true [] [⟨some 57,none,.ld (some 8) (.t 5)⟩,⟨some 58,none,.mov (.t 4)⟩,⟨some 59,none,.call 34 [(.t 58)]⟩,⟨some 60,none,.eqa true 8 (.t 57) (.t 59)⟩,⟨some 61,none,.mov (.t 60)⟩,⟨some 62,(some (61,false)),.ld (some 8) (.t 6)⟩,⟨some 63,(some (61,false)),.mov (.t 4)⟩,⟨some 64,(some (61,false)),.call 34 [(.t 63)]⟩,⟨some 65,(some (61,false)),.eqa true 8 (.t 62) (.t 64)⟩,⟨some 66,none,.pick (.t 61) (.c (.bool true)) (.t 65)⟩]) (.cond (.t 66) (.seq (.reg [⟨some 2,none,.mov (.c (.bool false))⟩]) .ret) .skip)))))) (.reg [⟨some 67,none,.bin .add (.t 12) (.c (.int .i64 1))⟩,⟨some 12,none,.mov (.t 67)⟩]))))))) (.seq (.reg [⟨some 2,none,.mov (.c (.bool true))⟩]) .ret))))
set_option maxRecDepth 100000 in
theorem tr126 : trFn Tryz.prog Tryz.f126 = some (68, ir126, [.tmp 2]) := by kernel_rfl
theorem Coalgebra_isCounit (p : Int) (a : Nat) (e c : Nat → Int) (b : Nat) (K : Blk) (H : Hp) (n : Nat) (hp : 2 ≤ p ∧ p ≤ 31) (ha : a ≤ 8) (hb : H.get b = some K) (hsz : K.size = 522)
    (h0 : K.c 0 = .int .i64 p) (h1 : K.c 1 = .int .i64 a) (hE : ∀ q, q < 8 → K.c (2 + q) = .int .u8 (e q)) (hK : ∀ q, q < 512 → K.c (10 + q) = .int .u8 (c q)) (he : isBy 8 e) (hc : isBy 512 c) :
    FnS Tryz.prog 126 [ptr b 0] H n (fun r H' _ => r = bl (tb (counits p a e c)) ∧ H' = H) := by
  refine FnS.of_body Tryz.func126 tr126 (by simp) (fun hf => ?_)
  dsimp only [argEnv]
  unfold ir126
  have hbn := getlt hf hb
  (repeat first|refine zG ?_|(refine LS.nilO ?_;intro nq hnq hltq;try refine zU ?_)|(refine MS.new ?_;intro bq hbq hbqf;try refine zU ?_)|(refine MS.nil ?_;intro nq hnq hltq;have hlq:=hltq _ _ (Hp.get_eq _ _ _);clear hltq;try refine zU ?_)|(refine LS.nilQ ?_;try with_reducible intro nq hnq;try refine zU ?_))
  refine RS.call rfl ((Coalgebra_field p a b K _ _ (by exact zH) hsz h0 h1 (by omega)).mono ?_)
  rintro r H n2 hn2 ⟨rfl, rfl⟩
  (repeat first|refine zG ?_|(refine LS.nilO ?_;intro nq hnq hltq;try refine zU ?_)|(refine MS.new ?_;intro bq hbq hbqf;try refine zU ?_)|(refine MS.nil ?_;intro nq hnq hltq;have hlq:=hltq _ _ (Hp.get_eq _ _ _);clear hltq;try refine zU ?_)|(refine LS.nilQ ?_;try with_reducible intro nq hnq;try refine zU ?_))
  refine CS.iter a (fun i => [(12, i64 i), (11, i64 a), (3, ptr n2 0), (0, ptr b 0)]) (fun _ => (n2, ⟨2, fldC p a, 85⟩) :: H)
    (fun i => ∀ i' : Nat, i' < i → (∀ q, q < 8 → coL p e c i' a q = bas i' q) ∧ (∀ q, q < 8 → coR p e c i' a q = bas i' q)) (by (repeat first | exact trivial | refine And.intro rfl ?_)) (by exact zD) (fun _ h => by omega) ?_
  intro i n3 hi hn hJ
  (repeat first|refine zG ?_|(refine LS.nilO ?_;intro nq hnq hltq;try refine zU ?_)|(refine MS.new ?_;intro bq hbq hbqf;try refine zU ?_)|(refine MS.nil ?_;intro nq hnq hltq;have hlq:=hltq _ _ (Hp.get_eq _ _ _);clear hltq;try refine zU ?_)|(refine LS.nilQ ?_;try with_reducible intro nq hnq;try refine zU ?_))
  refine zI ?_ ?_<;>intro h2
  · (repeat first|refine zG ?_|(refine LS.nilO ?_;intro nq hnq hltq;try refine zU ?_)|(refine MS.new ?_;intro bq hbq hbqf;try refine zU ?_)|(refine MS.nil ?_;intro nq hnq hltq;have hlq:=hltq _ _ (Hp.get_eq _ _ _);clear hltq;try refine zU ?_)|(refine LS.nilQ ?_;try with_reducible intro nq hnq;try refine zU ?_))
    refine CS.iter a (fun j => [(19, i64 j), (18, i64 a), (4, i64 i), (5, ptr n3 0), (6, ptr (n3 + 1) 0), (12, i64 i), (11, i64 a), (3, ptr n2 0), (0, ptr b 0)])
      (fun j => (n3 + 1, ⟨8, bys (coR p e c i j), 27⟩) :: (n3, ⟨8, bys (coL p e c i j), 27⟩) :: (n2, ⟨2, fldC p a, 85⟩) :: H) (fun _ => True) (by (repeat first | exact trivial | refine And.intro rfl ?_))
      (Drops.keepc rfl rfl (fun _ _ => by rw [coR_zero]; rfl) (Drops.keepc rfl rfl (fun _ _ => by rw [coL_zero]; rfl) (Drops.refl _ _))) trivial ?_
    intro j n4 hj hn4 _
    (repeat first|refine zG ?_|(refine LS.nilO ?_;intro nq hnq hltq;try refine zU ?_)|(refine MS.new ?_;intro bq hbq hbqf;try refine zU ?_)|(refine MS.nil ?_;intro nq hnq hltq;have hlq:=hltq _ _ (Hp.get_eq _ _ _);clear hltq;try refine zU ?_)|(refine LS.nilQ ?_;try with_reducible intro nq hnq;try refine zU ?_))
    refine zI ?_ ?_<;>intro h3
    · have hej := he j (by omega)
      (repeat first|refine zG ?_|(refine LS.nilO ?_;intro nq hnq hltq;try refine zU ?_)|(refine MS.new ?_;intro bq hbq hbqf;try refine zU ?_)|(refine MS.nil ?_;intro nq hnq hltq;have hlq:=hltq _ _ (Hp.get_eq _ _ _);clear hltq;try refine zU ?_)|(refine LS.nilQ ?_;try with_reducible intro nq hnq;try refine zU ?_))
      refine RS.call rfl ((field_plus p a (e j) (coL p e c i j) (fun x => c (64 * i + 8 * j + x)) n3 0 ⟨8, bys (coL p e c i j), 27⟩ _ _ hp (by exact zH) (by simp) (fun _ _ => by rw [Nat.zero_add]; rfl) (coL_res hp.1 _ _ _ _ _) (fun x hx => hc _ (by omega)) (by omega)).mono ?_)
      rintro r H n5 hn5 ⟨rfl, rfl⟩
      simp (disch := omega) only [Hp.set_eq, Hp.set_ne]
      have hd := dotk_res hp.1 e (fun y => c (64 * i + 8 * j + y)) 8
      (repeat first|refine zG ?_|(refine LS.nilO ?_;intro nq hnq hltq;try refine zU ?_)|(refine MS.new ?_;intro bq hbq hbqf;try refine zU ?_)|(refine MS.nil ?_;intro nq hnq hltq;have hlq:=hltq _ _ (Hp.get_eq _ _ _);clear hltq;try refine zU ?_)|(refine LS.nilQ ?_;try with_reducible intro nq hnq;try refine zU ?_))
      refine LS.callQ (i64 (dotk p e (fun y => c (64 * i + 8 * j + y)) 8)) rfl (fun n' hn' => field_dot p a e (fun y => c (64 * i + 8 * j + y)) _ _ hp he (fun x hx => hc _ (by omega))) ?_
      (repeat first|refine zG ?_|(refine LS.nilO ?_;intro nq hnq hltq;try refine zU ?_)|(refine MS.new ?_;intro bq hbq hbqf;try refine zU ?_)|(refine MS.nil ?_;intro nq hnq hltq;have hlq:=hltq _ _ (Hp.get_eq _ _ _);clear hltq;try refine zU ?_)|(refine LS.nilQ ?_;try with_reducible intro nq hnq;try refine zU ?_))
      exact ⟨by omega, by (repeat first | exact trivial | refine And.intro rfl ?_), Drops.keepc rfl rfl (fun q hq => by simp only [put1, bys]; rw [← coR_step]; split <;> rfl) (Drops.keepc rfl rfl (fun q hq => (splice_all _ _ 8 q hq).trans (by rw [coL_step])) (Drops.refl _ _)), trivial⟩
    · have : j = a := by omega
      subst this
      (repeat first|refine zG ?_|(refine LS.nilO ?_;intro nq hnq hltq;try refine zU ?_)|(refine MS.new ?_;intro bq hbq hbqf;try refine zU ?_)|(refine MS.nil ?_;intro nq hnq hltq;have hlq:=hltq _ _ (Hp.get_eq _ _ _);clear hltq;try refine zU ?_)|(refine LS.nilQ ?_;try with_reducible intro nq hnq;try refine zU ?_))
      refine LS.callQ (.arr 8 (bys (bas i))) rfl (fun n' hn' => impl_basis i _ _ (by omega)) ?_
      (repeat first|refine zG ?_|(refine LS.nilO ?_;intro nq hnq hltq;try refine zU ?_)|(refine MS.new ?_;intro bq hbq hbqf;try refine zU ?_)|(refine MS.nil ?_;intro nq hnq hltq;have hlq:=hltq _ _ (Hp.get_eq _ _ _);clear hltq;try refine zU ?_)|(refine LS.nilQ ?_;try with_reducible intro nq hnq;try refine zU ?_))
      refine RS.sp (t := 61) rfl (fun h4 => ?_) (fun h4 => ?_) <;> (try simp only [tb_eq, tb_eqF, decide_eq_true_eq, decide_eq_false_iff_not, beq_iff_eq, bne_iff_ne, ne_eq, Decidable.not_not, beq_eq_false_iff_ne, bne_eq_false_iff_eq, Bool.not_eq_true', Bool.not_eq_false', Bool.not_eq_eq_eq_not, Bool.not_true, Bool.not_false] at h4)
      · (repeat first|refine zG ?_|(refine LS.nilO ?_;intro nq hnq hltq;try refine zU ?_)|(refine MS.new ?_;intro bq hbq hbqf;try refine zU ?_)|(refine MS.nil ?_;intro nq hnq hltq;have hlq:=hltq _ _ (Hp.get_eq _ _ _);clear hltq;try refine zU ?_)|(refine LS.nilQ ?_;try with_reducible intro nq hnq;try refine zU ?_))
        exact ⟨_, H, rfl, by exact zD, by rw [tb_false (fun h => h4 (h i (by omega)).1)], rfl⟩
      · (repeat first|refine zG ?_|(refine LS.nilO ?_;intro nq hnq hltq;try refine zU ?_)|(refine MS.new ?_;intro bq hbq hbqf;try refine zU ?_)|(refine MS.nil ?_;intro nq hnq hltq;have hlq:=hltq _ _ (Hp.get_eq _ _ _);clear hltq;try refine zU ?_)|(refine LS.nilQ ?_;try with_reducible intro nq hnq;try refine zU ?_))
        refine LS.callQ (.arr 8 (bys (bas i))) rfl (fun n' hn' => impl_basis i _ _ (by omega)) ?_
        (repeat first|refine zG ?_|(refine LS.nilO ?_;intro nq hnq hltq;try refine zU ?_)|(refine MS.new ?_;intro bq hbq hbqf;try refine zU ?_)|(refine MS.nil ?_;intro nq hnq hltq;have hlq:=hltq _ _ (Hp.get_eq _ _ _);clear hltq;try refine zU ?_)|(refine LS.nilQ ?_;try with_reducible intro nq hnq;try refine zU ?_))
        refine zI ?_ ?_<;>intro h5
        · (repeat first|refine zG ?_|(refine LS.nilO ?_;intro nq hnq hltq;try refine zU ?_)|(refine MS.new ?_;intro bq hbq hbqf;try refine zU ?_)|(refine MS.nil ?_;intro nq hnq hltq;have hlq:=hltq _ _ (Hp.get_eq _ _ _);clear hltq;try refine zU ?_)|(refine LS.nilQ ?_;try with_reducible intro nq hnq;try refine zU ?_))
          exact ⟨_, H, rfl, by exact zD, by rw [tb_false (fun h => h5 (h i (by omega)).2)], rfl⟩
        · (repeat first|refine zG ?_|(refine LS.nilO ?_;intro nq hnq hltq;try refine zU ?_)|(refine MS.new ?_;intro bq hbq hbqf;try refine zU ?_)|(refine MS.nil ?_;intro nq hnq hltq;have hlq:=hltq _ _ (Hp.get_eq _ _ _);clear hltq;try refine zU ?_)|(refine LS.nilQ ?_;try with_reducible intro nq hnq;try refine zU ?_))
          refine ⟨by omega, by (repeat first | exact trivial | refine And.intro rfl ?_), by exact zD, fun i' hi' => ?_⟩
          by_cases e : i' = i
          · subst e; exact ⟨h4, h5⟩
          · exact hJ i' (by omega)
  · have : i = a := by omega
    subst this
    (repeat first|refine zG ?_|(refine LS.nilO ?_;intro nq hnq hltq;try refine zU ?_)|(refine MS.new ?_;intro bq hbq hbqf;try refine zU ?_)|(refine MS.nil ?_;intro nq hnq hltq;have hlq:=hltq _ _ (Hp.get_eq _ _ _);clear hltq;try refine zU ?_)|(refine LS.nilQ ?_;try with_reducible intro nq hnq;try refine zU ?_))
    exact ⟨_, H, rfl, by exact zD, by rw [tb_true (show counits p i e c from fun i' h => hJ i' h)], rfl⟩
/-- spec.l02Fault -/
def ir135 : Cd := (.seq (.reg [⟨some 1,none,.box 46 (.t 0)⟩,⟨some 2,none,.mov (.c .nils)⟩,⟨some 3,none,.mov (.c (.bool false))⟩]) (.seq (.reg [⟨some 12,none,.fa 1 (.t 1)⟩,⟨some 13,none,.ld none (.t 12)⟩,⟨some 4,none,.mov (.t 13)⟩]) (.seq (.seq (.reg [⟨some 5,none,.mov (.c (.int .i64 0))⟩]) (.block 0 (.loop (.seq (.seq (.reg [⟨some 14,none,.mov (.t 5)⟩,⟨some 15,none,.mov (.t 4)⟩,⟨some 16,none,.mov (.t 4)⟩,⟨some 17,none,.bin .mul (.t 15) (.t 16)⟩,⟨some 18,none,.mov (.t 4)⟩,⟨some 19,none,.bin .mul (.t 17) (.t 18)⟩,⟨some 20,none,.mov (.t 4)⟩,⟨some 21,none,.bin .mul (.t 19) (.t 20)⟩,⟨some 22,none,.bin .lss (.t 14) (.t 21)⟩]) (.cond (.t 22) .skip (.exit 0))) (.seq (.block 1 (.seq (.drw true [] [⟨some 25,none,.mov (.t 5)⟩,⟨some 26,none,.mov (.t 4)⟩,⟨some 27,none,.mov (.t 4)⟩,⟨some 28,none,.bin .mul (.t 26) (.t 27)⟩,⟨some 29,none,.mov (.t 4)⟩,⟨some 30,none,.bin .mul (.t 28) (.t 29)⟩,⟨some 31,none,.bin .quo (.t 25) (.t 30)⟩,⟨some 32,none,.mov (.t 5)⟩,⟨some 33,none,.mov (.t 4)⟩,⟨some 34,none,.mov (.t 4)⟩,⟨some 35,none,.bin .mul (.t 33) (.t 34)⟩,⟨some 36,none,.bin .quo (.t 32) (.t 35)⟩,⟨some 37,none,.mov (.t 4)⟩,⟨some 38,none,.bin .rem (.t 36) (.t 37)⟩,⟨some 39,none,.mov (.t 5)⟩,⟨some 40,none,.mov (.t 4)⟩,⟨some 41,none,.bin .quo (.t 39) (.t 40)⟩,⟨some 42,none,.mov (.t 4)⟩,⟨some 43,none,.bin .rem (.t 41) (.t 42)⟩,⟨some 44,none,.mov (.t 5)⟩,⟨some 45,none,.mov (.t 4)⟩,⟨some 46,none,.bin .rem (.t 44) (.t 45)⟩,⟨some 6,none,.mov (.t 31)⟩,⟨some 7,none,.mov (.t 38)⟩,⟨some 8,none,.mov (.t 43)⟩,⟨some 9,none,.mov (.t 46)⟩]) (.seq (.reg [⟨some 48,none,.ld (some 522) (.t 1)⟩,⟨some 49,none,.mov (.t 6)⟩,⟨some 50,none,.mov (.t 7)⟩,⟨some 51,none,.mov (.t 8)⟩,⟨some 52,none,.mov (.t 9)⟩,⟨some 53,none,.call 142 [(.t 48),(.t 49),(.t 50),(.t 51),(.t 52)]⟩,⟨some 47,none,.mov (.t 53)⟩,⟨some 54,none,.ex (.t 47) 0⟩,⟨some 55,none,.ex (.t 47) 1⟩,⟨some 10,none,.mov (.t 54)⟩,⟨some 11,none,.mov (.t 55)⟩]) (.seq (.reg [⟨some 56,none,.mov (.t 10)⟩,⟨some 57,none,.mov (.t 11)⟩,⟨some 58,none,.bin .neq (.t 56) (.t 57)⟩]) (.cond (.t 58) (.seq (.reg [⟨some 59,none,.mov (.t 6)⟩,⟨some 60,none,.mov (.t 7)⟩,⟨some 61,none,.mov (.t 8)⟩,⟨some 62,none,.mov (.t 9)⟩,⟨some 63,none,.bsl 2 4 1 [(1,(.int .i64 0))] [(0,1,(.t 59)),(1,1,(.t 60)),(2,1,(.t 61)),(3,1,(.t 62))]⟩,⟨some 2,none,.mov (.t 63)⟩,⟨some 3,none,.mov (.c (.bool true))⟩]) .ret) .skip))))) (.reg [⟨some 23,none,.mov (.t 5)⟩,⟨some 24,none,.bin .add (.t 23) (.c (.int .i64 1))⟩,⟨some 5,none,.mov (.t 24)⟩])))))) (.seq (.reg [⟨some 2,none,.mov (.c .nils)⟩,⟨some 3,none,.mov (.c (.bool false))⟩]) .ret))))
set_option maxRecDepth 100000 in
theorem tr135 : trFn Tryz.prog Tryz.f135 = some (64, ir135, [.tmp 2, .tmp 3]) := by kernel_rfl
theorem spec_l02Fault (p : Int) (a : Nat) (c : Nat → Int) (K : Nat → SV) (H : Hp) (n : Nat) (hp : 2 ≤ p ∧ p ≤ 31) (ha1 : 1 ≤ a) (ha : a ≤ 8)
    (h0 : K 0 = .int .i64 p) (h1 : K 1 = .int .i64 a) (hK : ∀ q, q < 512 → K (10 + q) = .int .u8 (c q)) (hc : isBy 512 c) :
    FnS Tryz.prog 135 [.arr 522 K] H n (fun r H' _ => (∃ s, r = .tup [.s s, bl (!tb (coassoc p a c))]) ∧ H' = H) := by
  refine FnS.of_body Tryz.func135 tr135 (by simp) (fun hf => ?_)
  dsimp only [argEnv]
  unfold ir135
  obtain ⟨p2, p3, p4⟩ := pow4 a ha1 ha
  (repeat first|refine zG ?_|(refine LS.nilO ?_;intro nq hnq hltq;try refine zU ?_)|(refine MS.new ?_;intro bq hbq hbqf;try refine zU ?_)|(refine MS.nil ?_;intro nq hnq hltq;have hlq:=hltq _ _ (Hp.get_eq _ _ _);clear hltq;try refine zU ?_)|(refine LS.nilQ ?_;try with_reducible intro nq hnq;try refine zU ?_))
  refine CS.iter (a * a * a * a) (fun t => [(5, i64 t), (4, i64 a), (1, ptr n 0)]) (fun _ => (n, ⟨522, K, 46⟩) :: H)
    (fun t => ∀ t' : Nat, t' < t → cosum1 p c (t' / (a * a * a)) (t' / (a * a) % a) (t' / a % a) (t' % a) a = cosum2 p c (t' / (a * a * a)) (t' / (a * a) % a) (t' / a % a) (t' % a) a) (by (repeat first | exact trivial | refine And.intro rfl ?_)) (Drops.refl _ _) (fun _ h => by omega) ?_
  intro t n1 ht hn hJ
  have ht' : (t : Int) ≤ (a : Int) * a * a * a := by have := Int.ofNat_le.2 ht; simpa only [Int.natCast_mul] using this
  have q1 : 0 ≤ (t : Int) / ((a : Int) * a) ∧ (t : Int) / ((a : Int) * a) ≤ t := ⟨Int.ediv_nonneg (by omega) (by omega), Int.ediv_le_self _ (by omega)⟩
  have q2 : 0 ≤ (t : Int) / (a : Int) ∧ (t : Int) / (a : Int) ≤ t := ⟨Int.ediv_nonneg (by omega) (by omega), Int.ediv_le_self _ (by omega)⟩
  (repeat first|refine zG ?_|(refine LS.nilO ?_;intro nq hnq hltq;try refine zU ?_)|(refine MS.new ?_;intro bq hbq hbqf;try refine zU ?_)|(refine MS.nil ?_;intro nq hnq hltq;have hlq:=hltq _ _ (Hp.get_eq _ _ _);clear hltq;try refine zU ?_)|(refine LS.nilQ ?_;try with_reducible intro nq hnq;try refine zU ?_))
  refine zI ?_ ?_<;>intro h2
  · have htl : t < a * a * a * a := by have h3 : (t : Int) < ((a * a * a * a : Nat) : Int) := by (simp only [Int.natCast_mul]; exact h2)
                                       exact Int.ofNat_lt.1 h3
    obtain ⟨i1, i2, i3, i4⟩ := idx4 a t ha1 htl
    (repeat first|refine zG ?_|(refine LS.nilO ?_;intro nq hnq hltq;try refine zU ?_)|(refine MS.new ?_;intro bq hbq hbqf;try refine zU ?_)|(refine MS.nil ?_;intro nq hnq hltq;have hlq:=hltq _ _ (Hp.get_eq _ _ _);clear hltq;try refine zU ?_)|(refine LS.nilQ ?_;try with_reducible intro nq hnq;try refine zU ?_))
    refine RS.call rfl ((FnS.args (concs_cons (conc_arr (fun q hq => rfl)) rfl) (spec_l02Sums p a (t / (a * a * a)) (t / (a * a) % a) (t / a % a) (t % a) _ _ _ _ c K _ _ hp ha ⟨i1, by push_cast; rfl⟩ ⟨i2, by push_cast; rfl⟩ ⟨i3, by push_cast; rfl⟩ ⟨i4, by push_cast; rfl⟩ h0 h1 hK hc)).mono ?_)
    rintro r H n2 hn2 ⟨rfl, rfl⟩
    (repeat first|refine zG ?_|(refine LS.nilO ?_;intro nq hnq hltq;try refine zU ?_)|(refine MS.new ?_;intro bq hbq hbqf;try refine zU ?_)|(refine MS.nil ?_;intro nq hnq hltq;have hlq:=hltq _ _ (Hp.get_eq _ _ _);clear hltq;try refine zU ?_)|(refine LS.nilQ ?_;try with_reducible intro nq hnq;try refine zU ?_))
    refine zI ?_ ?_<;>intro h3
    · (repeat first|refine zG ?_|(refine LS.nilO ?_;intro nq hnq hltq;try refine zU ?_)|(refine MS.new ?_;intro bq hbq hbqf;try refine zU ?_)|(refine MS.nil ?_;intro nq hnq hltq;have hlq:=hltq _ _ (Hp.get_eq _ _ _);clear hltq;try refine zU ?_)|(refine LS.nilQ ?_;try with_reducible intro nq hnq;try refine zU ?_))
      exact ⟨_, H, rfl, by exact zD, ⟨_, by rw [tb_false (fun h : coassoc p a c => h3 (h t htl))]; rfl⟩, rfl⟩
    · (repeat first|refine zG ?_|(refine LS.nilO ?_;intro nq hnq hltq;try refine zU ?_)|(refine MS.new ?_;intro bq hbq hbqf;try refine zU ?_)|(refine MS.nil ?_;intro nq hnq hltq;have hlq:=hltq _ _ (Hp.get_eq _ _ _);clear hltq;try refine zU ?_)|(refine LS.nilQ ?_;try with_reducible intro nq hnq;try refine zU ?_))
      refine ⟨by omega, by (repeat first | exact trivial | refine And.intro rfl ?_), Drops.refl _ _, fun t' ht' => ?_⟩
      by_cases e : t' = t
      · subst e; exact h3
      · exact hJ t' (by omega)
  · have : t = a * a * a * a := by
      have h3 : ¬(t : Int) < ((a * a * a * a : Nat) : Int) := by (simp only [Int.natCast_mul]; exact h2)
      have : ¬ t < a * a * a * a := fun h => h3 (Int.ofNat_lt.2 h)
      omega
    subst this
    (repeat first|refine zG ?_|(refine LS.nilO ?_;intro nq hnq hltq;try refine zU ?_)|(refine MS.new ?_;intro bq hbq hbqf;try refine zU ?_)|(refine MS.nil ?_;intro nq hnq hltq;have hlq:=hltq _ _ (Hp.get_eq _ _ _);clear hltq;try refine zU ?_)|(refine LS.nilQ ?_;try with_reducible intro nq hnq;try refine zU ?_))
    exact ⟨_, H, rfl, by exact zD, ⟨_, by rw [tb_true (show coassoc p a c from fun t' ht' => hJ t' ht')]; rfl⟩, rfl⟩
/-- (*impl.Hopf).coproduct -/
def ir128 : Cd := (.seq (.reg [⟨some 3,none,.box 27 (.t 1)⟩,⟨some 4,none,.new 29 [(64,(.int .u8 0))]⟩]) (.seq (.reg [⟨some 10,none,.mov (.t 0)⟩,⟨some 11,none,.call 49 [(.t 10)]⟩,⟨some 12,none,.build 64 [(64,(.int .u8 0))] []⟩,⟨some 5,none,.new 85 [(2,(.int .i64 0))]⟩,⟨some 6,none,.new 29 [(64,(.int .u8 0))]⟩,⟨none,none,.st 2 (.t 5) (.t 11)⟩,⟨none,none,.st 64 (.t 6) (.t 12)⟩]) (.seq (.seq (.reg [⟨some 13,none,.ld (some 8) (.t 3)⟩,⟨some 14,none,.mov (.c (.int .i64 0))⟩]) (.block 0 (.loop (.seq (.reg [⟨some 15,none,.bin .lss (.t 14) (.c (.int .i64 8))⟩]) (.seq (.cond (.t 15) .skip (.exit 0)) (.seq (.block 1 (.seq (.reg [⟨some 16,none,.mov (.t 14)⟩,⟨some 17,none,.ix 8 1 none (.t 13) (.t 14)⟩,⟨some 7,none,.mov (.t 16)⟩,⟨some 8,none,.mov (.t 17)⟩]) (.seq (.reg [⟨some 9,none,.mov (.c (.int .i64 0))⟩]) (.block 2 (.loop (.seq (.seq (.reg [⟨some 18,none,.mov (.t 8)⟩,⟨some 19,none,.bin .neq (.t 18) (.c (.int .u8 0))⟩,⟨some 20,none,.mov (.t 19)⟩,⟨some 21,(some (20,true)),.mov (.t 9)⟩,⟨some 22,(some (20,true)),.fa 1 (.t 5)⟩,⟨some 23,(some (20,true)),.ld none (.t 22)⟩,⟨some 24,(some (20,true)),.bin .lss (.t 21) (.t 23)⟩,⟨some 25,none,.pick (.t 20) (.t 24) (.c (.bool false))⟩]) (.cond (.t 25) .skip (.exit 2))) (.seq (.block 3 (.drw true [13] [⟨some 28,none,.ld (some 2) (.t 5)⟩,⟨some 29,none,.mov (.t 9)⟩,⟨some 30,none,.ia 8 8 (.t 6) (.t 29)⟩,⟨some 31,none,.mov (.t 8)⟩,⟨some 32,none,.cv .i64 (.t 31)⟩,⟨some 33,none,.mov (.t 0)⟩,⟨some 34,none,.mov (.t 7)⟩,⟨some 35,none,.mov (.t 9)⟩,⟨some 36,none,.ck (.t 33)⟩,⟨some 37,none,.fa 530 (.t 36)⟩,⟨some 38,none,.ia 8 64 (.t 37) (.t 34)⟩,⟨some 39,none,.ia 8 8 (.t 38) (.t 35)⟩,⟨some 40,none,.ld (some 8) (.t 39)⟩,⟨some 41,none,.call 50 [(.t 28),(.t 30),(.t 32),(.t 40)]⟩])) (.reg [⟨some 26,none,.mov (.t 9)⟩,⟨some 27,none,.bin .add (.t 26) (.c (.int .i64 1))⟩,⟨some 9,none,.mov (.t 27)⟩])))))))) (.reg [⟨some 42,none,.bin .add (.t 14) (.c (.int .i64 1))⟩,⟨some 14,none,.mov (.t 42)⟩]))))))) (.seq (.reg [⟨some 43,none,.ld (some 64) (.t 6)⟩,⟨none,none,.st 64 (.t 4) (.t 43)⟩]) .ret))))
set_option maxRecDepth 100000 in
theorem tr128 : trFn Tryz.prog Tryz.f128 = some (44, ir128, [.cell (some 64) 4]) := by kernel_rfl
theorem Hopf_coproduct (h : HT) (a : Nat) (v : Nat → Int) (b : Nat) (K : Blk) (H : Hp) (n : Nat) (hS : HS h a) (hb : H.get b = some K) (hsz : K.size = 1106) (hK : h.At K.c) (hB : h.By) (hv : isBy 8 v) :
    FnS Tryz.prog 128 [ptr b 0, .arr 8 (bys v)] H n (fun r H' _ => r = .arr 64 (bys (cps h.p h.c v 8)) ∧ H' = H) := by
  have hp := hS.hp
  have ha := hS.ha
  have hk1 := hK.n
  rw [hS.hn] at hk1
  have hk5 := hK.c
  refine FnS.of_body Tryz.func128 tr128 (by simp) (fun hf => ?_)
  dsimp only [argEnv]
  unfold ir128
  have hbn := getlt hf hb
  (repeat first|refine zG ?_|(refine LS.nilO ?_;intro nq hnq hltq;try refine zU ?_)|(refine MS.new ?_;intro bq hbq hbqf;try refine zU ?_)|(refine MS.nil ?_;intro nq hnq hltq;have hlq:=hltq _ _ (Hp.get_eq _ _ _);clear hltq;try refine zU ?_)|(refine LS.nilQ ?_;try with_reducible intro nq hnq;try refine zU ?_))
  refine RS.call rfl ((Hopf_field h.p a b K _ _ (by exact zH) hsz hK.p hk1 (by omega)).mono ?_)
  rintro r H n2 hn2 ⟨rfl, rfl⟩
  (repeat first|refine zG ?_|(refine LS.nilO ?_;intro nq hnq hltq;try refine zU ?_)|(refine MS.new ?_;intro bq hbq hbqf;try refine zU ?_)|(refine MS.nil ?_;intro nq hnq hltq;have hlq:=hltq _ _ (Hp.get_eq _ _ _);clear hltq;try refine zU ?_)|(refine LS.nilQ ?_;try with_reducible intro nq hnq;try refine zU ?_))
  refine CS.iter 8 (fun i => [(14, i64 i), (13, .arr 8 (bys v)), (0, ptr b 0), (4, ptr (n + 1) 0), (5, ptr n2 0), (6, ptr (n2 + 1) 0)])
    (fun i => (n2 + 1, ⟨64, bys (cps h.p h.c v i), 29⟩) :: (n2, ⟨2, fldC h.p a, 85⟩) :: (n + 1, ⟨64, bys (fun _ => 0), 29⟩) :: H) (fun _ => True) (by (repeat first | exact trivial | refine And.intro rfl ?_))
    (Drops.keepc rfl rfl (fun _ _ => by rw [cps_zero]; rfl) (Drops.keepc rfl rfl (fun _ _ => rfl) (Drops.keepc rfl rfl (fun _ _ => rfl) (by exact zD)))) trivial ?_
  intro i n3 hi hn _
  (repeat first|refine zG ?_|(refine LS.nilO ?_;intro nq hnq hltq;try refine zU ?_)|(refine MS.new ?_;intro bq hbq hbqf;try refine zU ?_)|(refine MS.nil ?_;intro nq hnq hltq;have hlq:=hltq _ _ (Hp.get_eq _ _ _);clear hltq;try refine zU ?_)|(refine LS.nilQ ?_;try with_reducible intro nq hnq;try refine zU ?_))
  refine zI ?_ ?_<;>intro h2
  · have hvi := hv i (by omega)
    (repeat first|refine zG ?_|(refine LS.nilO ?_;intro nq hnq hltq;try refine zU ?_)|(refine MS.new ?_;intro bq hbq hbqf;try refine zU ?_)|(refine MS.nil ?_;intro nq hnq hltq;have hlq:=hltq _ _ (Hp.get_eq _ _ _);clear hltq;try refine zU ?_)|(refine LS.nilQ ?_;try with_reducible intro nq hnq;try refine zU ?_))
    refine CS.iter a (fun j => [(9, i64 j), (7, i64 i), (8, u8 (v i)), (14, i64 i), (13, .arr 8 (bys v)), (0, ptr b 0), (4, ptr (n + 1) 0), (5, ptr n2 0), (6, ptr (n2 + 1) 0)])
      (fun j => (n2 + 1, ⟨64, bys (rowsTo (cps h.p h.c v i) (cps h.p h.c v (i + 1)) j), 29⟩) :: (n2, ⟨2, fldC h.p a, 85⟩) :: (n + 1, ⟨64, bys (fun _ => 0), 29⟩) :: H) (fun _ => True) (by (repeat first | exact trivial | refine And.intro rfl ?_))
      (Drops.keepc rfl rfl (fun _ _ => by rw [rowsTo_zero]) (Drops.refl _ _)) trivial ?_
    intro j n4 hj hn4 _
    (repeat first|refine zG ?_|(refine LS.nilO ?_;intro nq hnq hltq;try refine zU ?_)|(refine MS.new ?_;intro bq hbq hbqf;try refine zU ?_)|(refine MS.nil ?_;intro nq hnq hltq;have hlq:=hltq _ _ (Hp.get_eq _ _ _);clear hltq;try refine zU ?_)|(refine LS.nilQ ?_;try with_reducible intro nq hnq;try refine zU ?_))
    refine RS.sp (t := 20) rfl (fun h3 => ?_) (fun h3 => ?_) <;> (try simp only [tb_eq, tb_eqF, decide_eq_true_eq, decide_eq_false_iff_not, beq_iff_eq, bne_iff_ne, ne_eq, Decidable.not_not, beq_eq_false_iff_ne, bne_eq_false_iff_eq, Bool.not_eq_true', Bool.not_eq_false', Bool.not_eq_eq_eq_not, Bool.not_true, Bool.not_false] at h3)
    · (repeat first|refine zG ?_|(refine LS.nilO ?_;intro nq hnq hltq;try refine zU ?_)|(refine MS.new ?_;intro bq hbq hbqf;try refine zU ?_)|(refine MS.nil ?_;intro nq hnq hltq;have hlq:=hltq _ _ (Hp.get_eq _ _ _);clear hltq;try refine zU ?_)|(refine LS.nilQ ?_;try with_reducible intro nq hnq;try refine zU ?_))
      refine zI ?_ ?_<;>intro h4
      · (repeat first|refine zG ?_|(refine LS.nilO ?_;intro nq hnq hltq;try refine zU ?_)|(refine MS.new ?_;intro bq hbq hbqf;try refine zU ?_)|(refine MS.nil ?_;intro nq hnq hltq;have hlq:=hltq _ _ (Hp.get_eq _ _ _);clear hltq;try refine zU ?_)|(refine LS.nilQ ?_;try with_reducible intro nq hnq;try refine zU ?_))
        refine RS.call rfl ((field_plus h.p a (v i) (fun y => cps h.p h.c v i (8 * j + y)) (fun y => h.c (64 * i + 8 * j + y)) (n2 + 1) (8 * j) ⟨64, bys (rowsTo (cps h.p h.c v i) (cps h.p h.c v (i + 1)) j), 29⟩ _ _ hp (by exact zH) (show 8 * j + 8 ≤ 64 by omega)
          (fun y hy => by simp only [bys, rowsTo]; rw [if_neg (by omega)]) (fun y hy => cps_res hp.1 _ _ _ 64 _ (by omega)) (fun x hx => hB.c _ (by omega)) (by omega)).mono ?_)
        rintro r H n5 hn5 ⟨rfl, rfl⟩
        simp (disch := omega) only [Hp.set_eq, Hp.set_ne]
        (repeat first|refine zG ?_|(refine LS.nilO ?_;intro nq hnq hltq;try refine zU ?_)|(refine MS.new ?_;intro bq hbq hbqf;try refine zU ?_)|(refine MS.nil ?_;intro nq hnq hltq;have hlq:=hltq _ _ (Hp.get_eq _ _ _);clear hltq;try refine zU ?_)|(refine LS.nilQ ?_;try with_reducible intro nq hnq;try refine zU ?_))
        exact ⟨by omega, by (repeat first | exact trivial | refine And.intro rfl ?_), Drops.keepc rfl rfl (fun q hq => rowsTo_step (fun y hy => cps_row _ _ _ _ _ _) q) (Drops.refl _ _), trivial⟩
      · have : j = a := by omega
        subst this
        (repeat first|refine zG ?_|(refine LS.nilO ?_;intro nq hnq hltq;try refine zU ?_)|(refine MS.new ?_;intro bq hbq hbqf;try refine zU ?_)|(refine MS.nil ?_;intro nq hnq hltq;have hlq:=hltq _ _ (Hp.get_eq _ _ _);clear hltq;try refine zU ?_)|(refine LS.nilQ ?_;try with_reducible intro nq hnq;try refine zU ?_))
        exact ⟨by omega, by (repeat first | exact trivial | refine And.intro rfl ?_), Drops.keepc rfl rfl (fun q hq => by simp only [bys]; rw [rowsTo_all (fun q h1 h2 => cps_out hS.cm (by omega) h1 h2) hq]) (Drops.refl _ _), trivial⟩
    · (repeat first|refine zG ?_|(refine LS.nilO ?_;intro nq hnq hltq;try refine zU ?_)|(refine MS.new ?_;intro bq hbq hbqf;try refine zU ?_)|(refine MS.nil ?_;intro nq hnq hltq;have hlq:=hltq _ _ (Hp.get_eq _ _ _);clear hltq;try refine zU ?_)|(refine LS.nilQ ?_;try with_reducible intro nq hnq;try refine zU ?_))
      exact ⟨by omega, by (repeat first | exact trivial | refine And.intro rfl ?_), Drops.keepc rfl rfl (fun q hq => by simp only [bys, rowsTo]; rw [cps_same h3]; split <;> rfl) (Drops.refl _ _), trivial⟩
  · have : i = 8 := by omega
    subst this
    (repeat first|refine zG ?_|(refine LS.nilO ?_;intro nq hnq hltq;try refine zU ?_)|(refine MS.new ?_;intro bq hbq hbqf;try refine zU ?_)|(refine MS.nil ?_;intro nq hnq hltq;have hlq:=hltq _ _ (Hp.get_eq _ _ _);clear hltq;try refine zU ?_)|(refine LS.nilQ ?_;try with_reducible intro nq hnq;try refine zU ?_))
    exact ⟨.arr 64 (bys (cps h.p h.c v 8)), H, conc_arr (fun q hq => by first | rfl | (simp only [Nat.zero_add]; done) | (simp only [Nat.zero_add]; rfl)), by exact zD, rfl, rfl⟩
/-- (*impl.Hopf).product -/
def ir32 : Cd := (.seq (.reg [⟨some 4,none,.box 27 (.t 1)⟩,⟨some 5,none,.box 27 (.t 2)⟩,⟨some 6,none,.new 27 [(8,(.int .u8 0))]⟩]) (.seq (.reg [⟨some 11,none,.mov (.t 0)⟩,⟨some 12,none,.call 49 [(.t 11)]⟩,⟨some 13,none,.build 8 [(8,(.int .u8 0))] []⟩,⟨some 7,none,.new 85 [(2,(.int .i64 0))]⟩,⟨some 8,none,.new 27 [(8,(.int .u8 0))]⟩,⟨none,none,.st 2 (.t 7) (.t 12)⟩,⟨none,none,.st 8 (.t 8) (.t 13)⟩]) (.seq (.seq (.reg [⟨some 14,none,.fa 1 (.t 7)⟩,⟨some 15,none,.ld none (.t 14)⟩,⟨some 16,none,.mov (.c (.int .i64 0))⟩]) (.block 0 (.loop (.seq (.reg [⟨some 17,none,.bin .lss (.t 16) (.t 15)⟩]) (.seq (.cond (.t 17) .skip (.exit 0)) (.seq (.block 1 (.seq (.reg [⟨some 18,none,.mov (.t 16)⟩,⟨some 9,none,.mov (.t 18)⟩]) (.seq (.seq (.reg [⟨some 19,none,.mov (.t 9)⟩,⟨some 20,none,.ia 8 1 (.t 4) (.t 19)⟩,⟨some 21,none,.ld none (.t 20)⟩,⟨some 22,none,.bin .eql (.t 21) (.c (.int .u8 0))⟩]) (.cond (.t 22) (.exit 1) .skip)) (.seq (.reg [⟨some 23,none,.fa 1 (.t 7)⟩,⟨some 24,none,.ld none (.t 23)⟩,⟨some 25,none,.mov (.c (.int .i64 0))⟩]) (.block 2 (.loop (.seq (.reg [⟨some 26,none,.bin .lss (.t 25) (.t 24)⟩]) (.seq (.cond (.t 26) .skip (.exit 2)) (.seq (.block 3 (.seq (.reg [⟨some 27,none,.mov (.t 25)⟩,⟨some 10,none,.mov (.t 27)⟩]) (.drw true [18] [⟨some 28,none,.ld (some 2) (.t 7)⟩,⟨some 29,none,.mov (.t 9)⟩,⟨some 30,none,.ia 8 1 (.t 4) (.t 29)⟩,⟨some 31,none,.ld none (.t 30)⟩,⟨some 32,none,.cv .i64 (.t 31)⟩,⟨some 33,none,.mov (.t 10)⟩,⟨some 34,none,.ia 8 1 (.t 5) (.t 33)⟩,⟨some 35,none,.ld none (.t 34)⟩,⟨some 36,none,.cv .i64 (.t 35)⟩,⟨some 37,none,.bin .mul (.t 32) (.t 36)⟩,⟨some 38,none,.mov (.t 0)⟩,⟨some 39,none,.mov (.t 9)⟩,⟨some 40,none,.mov (.t 10)⟩,⟨some 41,none,.ck (.t 38)⟩,⟨some 42,none,.fa 10 (.t 41)⟩,⟨some 43,none,.ia 8 64 (.t 42) (.t 39)⟩,⟨some 44,none,.ia 8 8 (.t 43) (.t 40)⟩,⟨some 45,none,.ld (some 8) (.t 44)⟩,⟨some 46,none,.call 50 [(.t 28),(.t 8),(.t 37),(.t 45)]⟩]))) (.reg [⟨some 47,none,.bin .add (.t 25) (.c (.int .i64 1))⟩,⟨some 25,none,.mov (.t 47)⟩])))))))))) (.reg [⟨some 48,none,.bin .add (.t 16) (.c (.int .i64 1))⟩,⟨some 16,none,.mov (.t 48)⟩]))))))) (.seq (.reg [⟨some 49,none,.ld (some 8) (.t 8)⟩,⟨none,none,.st 8 (.t 6) (.t 49)⟩]) .ret))))
set_option maxRecDepth 100000 in
theorem tr32 : trFn Tryz.prog Tryz.f32 = some (50, ir32, [.cell (some 8) 6]) := by kernel_rfl
theorem Hopf_product (h : HT) (a : Nat) (v w : Nat → Int) (b : Nat) (K : Blk) (H : Hp) (n : Nat) (hS : HS h a) (hb : H.get b = some K) (hsz : K.size = 1106) (hK : h.At K.c) (hB : h.By) (hv : isBy 8 v) (hw : isBy 8 w) :
    FnS Tryz.prog 32 [ptr b 0, .arr 8 (bys v), .arr 8 (bys w)] H n (fun r H' _ => r = .arr 8 (bys (pr h.p h.m v w a)) ∧ H' = H) := by
  have hp := hS.hp
  have ha := hS.ha
  have hk1 := hK.n
  rw [hS.hn] at hk1
  have hk5 := hK.m
  refine FnS.of_body Tryz.func32 tr32 (by simp) (fun hf => ?_)
  dsimp only [argEnv]
  unfold ir32
  have hbn := getlt hf hb
  (repeat first|refine zG ?_|(refine LS.nilO ?_;intro nq hnq hltq;try refine zU ?_)|(refine MS.new ?_;intro bq hbq hbqf;try refine zU ?_)|(refine MS.nil ?_;intro nq hnq hltq;have hlq:=hltq _ _ (Hp.get_eq _ _ _);clear hltq;try refine zU ?_)|(refine LS.nilQ ?_;try with_reducible intro nq hnq;try refine zU ?_))
  refine RS.call rfl ((Hopf_field h.p a b K _ _ (by exact zH) hsz hK.p hk1 (by omega)).mono ?_)
  rintro r H n2 hn2 ⟨rfl, rfl⟩
  (repeat first|refine zG ?_|(refine LS.nilO ?_;intro nq hnq hltq;try refine zU ?_)|(refine MS.new ?_;intro bq hbq hbqf;try refine zU ?_)|(refine MS.nil ?_;intro nq hnq hltq;have hlq:=hltq _ _ (Hp.get_eq _ _ _);clear hltq;try refine zU ?_)|(refine LS.nilQ ?_;try with_reducible intro nq hnq;try refine zU ?_))
  refine CS.iter a (fun i => [(16, i64 i), (15, i64 a), (0, ptr b 0), (4, ptr n 0), (5, ptr (n + 1) 0), (6, ptr (n + 2) 0), (7, ptr n2 0), (8, ptr (n2 + 1) 0)])
    (fun i => (n2 + 1, ⟨8, bys (pk h.p h.m v w a i 0), 27⟩) :: (n2, ⟨2, fldC h.p a, 85⟩) :: (n + 2, ⟨8, bys (fun _ => 0), 27⟩) :: (n + 1, ⟨8, bys w, 27⟩) :: (n, ⟨8, bys v, 27⟩) :: H) (fun _ => True) (by (repeat first | exact trivial | refine And.intro rfl ?_))
    (Drops.keepc rfl rfl (fun _ _ => by rw [pk_zero]; rfl) (Drops.keepc rfl rfl (fun _ _ => rfl) (Drops.keepc rfl rfl (fun _ _ => rfl) (Drops.refl _ _)))) trivial ?_
  intro i n3 hi hn _
  (repeat first|refine zG ?_|(refine LS.nilO ?_;intro nq hnq hltq;try refine zU ?_)|(refine MS.new ?_;intro bq hbq hbqf;try refine zU ?_)|(refine MS.nil ?_;intro nq hnq hltq;have hlq:=hltq _ _ (Hp.get_eq _ _ _);clear hltq;try refine zU ?_)|(refine LS.nilQ ?_;try with_reducible intro nq hnq;try refine zU ?_))
  refine zI ?_ ?_<;>intro h2
  · have hvi := hv i (by omega)
    (repeat first|refine zG ?_|(refine LS.nilO ?_;intro nq hnq hltq;try refine zU ?_)|(refine MS.new ?_;intro bq hbq hbqf;try refine zU ?_)|(refine MS.nil ?_;intro nq hnq hltq;have hlq:=hltq _ _ (Hp.get_eq _ _ _);clear hltq;try refine zU ?_)|(refine LS.nilQ ?_;try with_reducible intro nq hnq;try refine zU ?_))
    refine zI ?_ ?_<;>intro h3
    · (repeat first|refine zG ?_|(refine LS.nilO ?_;intro nq hnq hltq;try refine zU ?_)|(refine MS.new ?_;intro bq hbq hbqf;try refine zU ?_)|(refine MS.nil ?_;intro nq hnq hltq;have hlq:=hltq _ _ (Hp.get_eq _ _ _);clear hltq;try refine zU ?_)|(refine LS.nilQ ?_;try with_reducible intro nq hnq;try refine zU ?_))
      exact ⟨by omega, by (repeat first | exact trivial | refine And.intro rfl ?_), by rw [pk_skip h3]; exact Drops.refl _ _, trivial⟩
    · (repeat first|refine zG ?_|(refine LS.nilO ?_;intro nq hnq hltq;try refine zU ?_)|(refine MS.new ?_;intro bq hbq hbqf;try refine zU ?_)|(refine MS.nil ?_;intro nq hnq hltq;have hlq:=hltq _ _ (Hp.get_eq _ _ _);clear hltq;try refine zU ?_)|(refine LS.nilQ ?_;try with_reducible intro nq hnq;try refine zU ?_))
      refine CS.iter a (fun j => [(25, i64 j), (24, i64 a), (9, i64 i), (16, i64 i), (15, i64 a), (0, ptr b 0), (4, ptr n 0), (5, ptr (n + 1) 0), (6, ptr (n + 2) 0), (7, ptr n2 0), (8, ptr (n2 + 1) 0)])
        (fun j => (n2 + 1, ⟨8, bys (pk h.p h.m v w a i j), 27⟩) :: (n2, ⟨2, fldC h.p a, 85⟩) :: (n + 2, ⟨8, bys (fun _ => 0), 27⟩) :: (n + 1, ⟨8, bys w, 27⟩) :: (n, ⟨8, bys v, 27⟩) :: H) (fun _ => True) (by (repeat first | exact trivial | refine And.intro rfl ?_))
        (Drops.refl _ _) trivial ?_
      intro j n4 hj hn4 _
      (repeat first|refine zG ?_|(refine LS.nilO ?_;intro nq hnq hltq;try refine zU ?_)|(refine MS.new ?_;intro bq hbq hbqf;try refine zU ?_)|(refine MS.nil ?_;intro nq hnq hltq;have hlq:=hltq _ _ (Hp.get_eq _ _ _);clear hltq;try refine zU ?_)|(refine LS.nilQ ?_;try with_reducible intro nq hnq;try refine zU ?_))
      refine zI ?_ ?_<;>intro h4
      · have hwj := hw j (by omega)
        have hvw := mulB hvi.1 hvi.2 hwj.1 hwj.2
        (repeat first|refine zG ?_|(refine LS.nilO ?_;intro nq hnq hltq;try refine zU ?_)|(refine MS.new ?_;intro bq hbq hbqf;try refine zU ?_)|(refine MS.nil ?_;intro nq hnq hltq;have hlq:=hltq _ _ (Hp.get_eq _ _ _);clear hltq;try refine zU ?_)|(refine LS.nilQ ?_;try with_reducible intro nq hnq;try refine zU ?_))
        refine RS.call rfl ((field_plus h.p a (v i * w j) (pk h.p h.m v w a i j) (fun x => h.m (64 * i + 8 * j + x)) (n2 + 1) 0 ⟨8, bys (pk h.p h.m v w a i j), 27⟩ _ _ hp (by exact zH) (by simp) (fun _ _ => by rw [Nat.zero_add]; rfl) (pk_res hp.1 _ _ _ _ _ _ _) (hB.rowm (by omega) (by omega)) (by omega)).mono ?_)
        rintro r H' n5 hn5 ⟨rfl, rfl⟩
        simp (disch := omega) only [Hp.set_eq, Hp.set_ne]
        (repeat first|refine zG ?_|(refine LS.nilO ?_;intro nq hnq hltq;try refine zU ?_)|(refine MS.new ?_;intro bq hbq hbqf;try refine zU ?_)|(refine MS.nil ?_;intro nq hnq hltq;have hlq:=hltq _ _ (Hp.get_eq _ _ _);clear hltq;try refine zU ?_)|(refine LS.nilQ ?_;try with_reducible intro nq hnq;try refine zU ?_))
        exact ⟨by omega, by (repeat first | exact trivial | refine And.intro rfl ?_), Drops.keepc rfl rfl (fun q hq => (splice_all _ _ 8 q hq).trans (by rw [pk_step])) (Drops.refl _ _), trivial⟩
      · have : j = a := by omega
        subst this
        (repeat first|refine zG ?_|(refine LS.nilO ?_;intro nq hnq hltq;try refine zU ?_)|(refine MS.new ?_;intro bq hbq hbqf;try refine zU ?_)|(refine MS.nil ?_;intro nq hnq hltq;have hlq:=hltq _ _ (Hp.get_eq _ _ _);clear hltq;try refine zU ?_)|(refine LS.nilQ ?_;try with_reducible intro nq hnq;try refine zU ?_))
        exact ⟨by omega, by (repeat first | exact trivial | refine And.intro rfl ?_), by rw [pk_row]; exact Drops.refl _ _, trivial⟩
  · have : i = a := by omega
    subst this
    (repeat first|refine zG ?_|(refine LS.nilO ?_;intro nq hnq hltq;try refine zU ?_)|(refine MS.new ?_;intro bq hbq hbqf;try refine zU ?_)|(refine MS.nil ?_;intro nq hnq hltq;have hlq:=hltq _ _ (Hp.get_eq _ _ _);clear hltq;try refine zU ?_)|(refine LS.nilQ ?_;try with_reducible intro nq hnq;try refine zU ?_))
    exact ⟨.arr 8 (bys (pr h.p h.m v w i)), _, conc_arr (fun q hq => by first | rfl | (simp only [Nat.zero_add]; done) | (simp only [Nat.zero_add]; rfl)), by exact zD, rfl, rfl⟩
/-- (*impl.Hopf).timesFirst$1 -/
def ir89 : Cd := (.seq (.reg [⟨some 16,none,.fa 1 (.t 3)⟩,⟨some 17,none,.ld none (.t 16)⟩,⟨some 18,none,.mov (.c (.int .i64 0))⟩]) (.block 0 (.loop (.seq (.reg [⟨some 19,none,.bin .lss (.t 18) (.t 17)⟩]) (.seq (.cond (.t 19) .skip (.exit 0)) (.seq (.block 1 (.seq (.reg [⟨some 20,none,.mov (.t 18)⟩,⟨some 10,none,.mov (.t 20)⟩]) (.seq (.reg [⟨some 21,none,.fa 1 (.t 3)⟩,⟨some 22,none,.ld none (.t 21)⟩,⟨some 23,none,.mov (.c (.int .i64 0))⟩]) (.block 2 (.loop (.seq (.reg [⟨some 24,none,.bin .lss (.t 23) (.t 22)⟩]) (.seq (.cond (.t 24) .skip (.exit 2)) (.seq (.block 3 (.seq (.reg [⟨some 25,none,.mov (.t 23)⟩,⟨some 11,none,.mov (.t 25)⟩]) (.seq (.reg [⟨some 26,none,.ld none (.t 4)⟩,⟨some 27,none,.mov (.t 0)⟩,⟨some 28,none,.mov (.t 10)⟩,⟨some 29,none,.ck (.t 26)⟩,⟨some 30,none,.fa 10 (.t 29)⟩,⟨some 31,none,.ia 8 64 (.t 30) (.t 27)⟩,⟨some 32,none,.ia 8 8 (.t 31) (.t 28)⟩,⟨some 33,none,.ld (some 8) (.t 32)⟩,⟨some 34,none,.mov (.c (.int .i64 0))⟩]) (.block 4 (.loop (.seq (.reg [⟨some 35,none,.bin .lss (.t 34) (.c (.int .i64 8))⟩]) (.seq (.cond (.t 35) .skip (.exit 4)) (.seq (.block 5 (.seq (.reg [⟨some 36,none,.mov (.t 34)⟩,⟨some 37,none,.ix 8 1 none (.t 33) (.t 34)⟩,⟨some 12,none,.mov (.t 36)⟩,⟨some 13,none,.mov (.t 37)⟩]) (.seq (.reg [⟨some 38,none,.ld none (.t 4)⟩,⟨some 39,none,.mov (.t 1)⟩,⟨some 40,none,.mov (.t 11)⟩,⟨some 41,none,.ck (.t 38)⟩,⟨some 42,none,.fa 10 (.t 41)⟩,⟨some 43,none,.ia 8 64 (.t 42) (.t 39)⟩,⟨some 44,none,.ia 8 8 (.t 43) (.t 40)⟩,⟨some 45,none,.ld (some 8) (.t 44)⟩,⟨some 46,none,.mov (.c (.int .i64 0))⟩]) (.block 6 (.loop (.seq (.reg [⟨some 47,none,.bin .lss (.t 46) (.c (.int .i64 8))⟩]) (.seq (.cond (.t 47) .skip (.exit 6)) (.seq (.block 7 (.seq (.reg [⟨some 48,none,.mov (.t 46)⟩,⟨some 49,none,.ix 8 1 none (.t 45) (.t 46)⟩,⟨some 14,none,.mov (.t 48)⟩,⟨some 15,none,.mov (.t 49)⟩]) (.drw true [22] [⟨some 50,none,.ld (some 2) (.t 3)⟩,⟨some 51,none,.mov (.t 12)⟩,⟨some 52,none,.mov (.t 14)⟩,⟨some 53,none,.ia 8 64 (.t 5) (.t 51)⟩,⟨some 54,none,.ia 8 8 (.t 53) (.t 52)⟩,⟨some 55,none,.mov (.t 2)⟩,⟨some 56,none,.mov (.t 13)⟩,⟨some 57,none,.cv .i64 (.t 56)⟩,⟨some 58,none,.bin .mul (.t 55) (.t 57)⟩,⟨some 59,none,.fa 0 (.t 3)⟩,⟨some 60,none,.ld none (.t 59)⟩,⟨some 61,none,.bin .rem (.t 58) (.t 60)⟩,⟨some 62,none,.mov (.t 15)⟩,⟨some 63,none,.cv .i64 (.t 62)⟩,⟨some 64,none,.bin .mul (.t 61) (.t 63)⟩,⟨some 65,none,.ld none (.t 6)⟩,⟨some 66,none,.mov (.t 10)⟩,⟨some 67,none,.mov (.t 11)⟩,⟨some 68,none,.ck (.t 65)⟩,⟨some 69,none,.ia 8 64 (.t 68) (.t 66)⟩,⟨some 70,none,.ia 8 8 (.t 69) (.t 67)⟩,⟨some 71,none,.ld (some 8) (.t 70)⟩,⟨some 72,none,.call 50 [(.t 50),(.t 54),(.t 64),(.t 71)]⟩]))) (.reg [⟨some 73,none,.bin .add (.t 46) (.c (.int .i64 1))⟩,⟨some 46,none,.mov (.t 73)⟩]))))))))) (.reg [⟨some 74,none,.bin .add (.t 34) (.c (.int .i64 1))⟩,⟨some 34,none,.mov (.t 74)⟩]))))))))) (.reg [⟨some 75,none,.bin .add (.t 23) (.c (.int .i64 1))⟩,⟨some 23,none,.mov (.t 75)⟩]))))))))) (.reg [⟨some 76,none,.bin .add (.t 18) (.c (.int .i64 1))⟩,⟨some 18,none,.mov (.t 76)⟩])))))))
set_option maxRecDepth 100000 in
theorem tr89 : trFn Tryz.prog Tryz.f89 = some (77, ir89, []) := by kernel_rfl
theorem Hopf_timesFirst_1 (h : HT) (a : Nat) (S T : Nat → Int) (t j k : Nat) (ht : t = 8 * j + k) (hj : j < 8) (hk : k < 8)
    (b bT oT br bh bf bo : Nat) (K KT Kr Kh : Blk) (H : Hp) (n : Nat) (hS : HS h a) (hb : H.get b = some K) (hsz : K.size = 1106) (hK : h.At K.c) (hB : h.By) (hs : isBy 64 S) (hT : isBy 512 T)
    (gT : H.get bT = some KT) (sT : oT + 512 ≤ KT.size) (cT : ∀ q, q < 512 → KT.c (oT + q) = .int .u8 (T q))
    (gr : H.get br = some Kr) (sr : Kr.size = 1) (cr : Kr.c 0 = .ptr bT oT) (gh : H.get bh = some Kh) (sh : Kh.size = 1) (ch : Kh.c 0 = .ptr b 0) (gf : H.get bf = some ⟨2, fldC h.p a, 85⟩)
    (go : H.get bo = some ⟨512, bys (tfs h.p h.m S T a t 0 0), 33⟩) (d1 : bo ≠ b) (d2 : bo ≠ bh) (d3 : bo ≠ br) (d4 : bo ≠ bf) (d5 : bo ≠ bT) :
    FnS Tryz.prog 89 [i64 j, i64 k, i64 (S t), ptr bf 0, ptr bh 0, ptr bo 0, ptr br 0] H n (fun _ H' _ => H' = H.set bo (bys (tfs h.p h.m S T a (t + 1) 0 0))) := by
  have hp := hS.hp
  have ha := hS.ha
  have hk5 := hK.m
  have hst := hs t (by omega)
  have hs0 : H.set bo (bys (tfs h.p h.m S T a t 0 0)) = H := Hp.set_self go
  refine FnS.of_body Tryz.func89 tr89 (by simp) (fun hf => ?_)
  dsimp only [argEnv]
  unfold ir89
  have hbn := getlt hf hb
  have hbn1 := getlt hf gT
  have hbn2 := getlt hf gr
  have hbn3 := getlt hf gh
  have hbn4 := getlt hf gf
  have hbn5 := getlt hf go
  (repeat first|refine zG ?_|(refine LS.nilO ?_;intro nq hnq hltq;try refine zU ?_)|(refine MS.new ?_;intro bq hbq hbqf;try refine zU ?_)|(refine MS.nil ?_;intro nq hnq hltq;have hlq:=hltq _ _ (Hp.get_eq _ _ _);clear hltq;try refine zU ?_)|(refine LS.nilQ ?_;try with_reducible intro nq hnq;try refine zU ?_))
  refine CS.iter a (fun i => [(18, i64 i), (17, i64 a), (0, i64 j), (1, i64 k), (2, i64 (S t)), (3, ptr bf 0), (4, ptr bh 0), (5, ptr bo 0), (6, ptr br 0)]) (fun i => H.set bo (bys (tfs h.p h.m S T a t i 0))) (fun _ => True) (by (repeat first | exact trivial | refine And.intro rfl ?_)) (by rw [hs0]; exact Drops.refl _ _) trivial ?_
  intro i n1 hi hn1 _
  (repeat first|refine zG ?_|(refine LS.nilO ?_;intro nq hnq hltq;try refine zU ?_)|(refine MS.new ?_;intro bq hbq hbqf;try refine zU ?_)|(refine MS.nil ?_;intro nq hnq hltq;have hlq:=hltq _ _ (Hp.get_eq _ _ _);clear hltq;try refine zU ?_)|(refine LS.nilQ ?_;try with_reducible intro nq hnq;try refine zU ?_))
  refine zI ?_ ?_<;>intro h1
  · (repeat first|refine zG ?_|(refine LS.nilO ?_;intro nq hnq hltq;try refine zU ?_)|(refine MS.new ?_;intro bq hbq hbqf;try refine zU ?_)|(refine MS.nil ?_;intro nq hnq hltq;have hlq:=hltq _ _ (Hp.get_eq _ _ _);clear hltq;try refine zU ?_)|(refine LS.nilQ ?_;try with_reducible intro nq hnq;try refine zU ?_))
    refine CS.iter a (fun l => [(23, i64 l), (22, i64 a), (10, i64 i), (18, i64 i), (17, i64 a), (0, i64 j), (1, i64 k), (2, i64 (S t)), (3, ptr bf 0), (4, ptr bh 0), (5, ptr bo 0), (6, ptr br 0)]) (fun l => H.set bo (bys (tfs h.p h.m S T a t i l))) (fun _ => True) (by (repeat first | exact trivial | refine And.intro rfl ?_)) (Drops.refl _ _) trivial ?_
    intro l n2 hl hn2 _
    (repeat first|refine zG ?_|(refine LS.nilO ?_;intro nq hnq hltq;try refine zU ?_)|(refine MS.new ?_;intro bq hbq hbqf;try refine zU ?_)|(refine MS.nil ?_;intro nq hnq hltq;have hlq:=hltq _ _ (Hp.get_eq _ _ _);clear hltq;try refine zU ?_)|(refine LS.nilQ ?_;try with_reducible intro nq hnq;try refine zU ?_))
    refine zI ?_ ?_<;>intro h2
    · (repeat first|refine zG ?_|(refine LS.nilO ?_;intro nq hnq hltq;try refine zU ?_)|(refine MS.new ?_;intro bq hbq hbqf;try refine zU ?_)|(refine MS.nil ?_;intro nq hnq hltq;have hlq:=hltq _ _ (Hp.get_eq _ _ _);clear hltq;try refine zU ?_)|(refine LS.nilQ ?_;try with_reducible intro nq hnq;try refine zU ?_))
      refine CS.iter 8 (fun c => [(34, i64 c), (33, .arr 8 (bys (fun x => h.m (64 * j + 8 * i + x)))), (11, i64 l), (23, i64 l), (22, i64 a), (10, i64 i), (18, i64 i), (17, i64 a), (0, i64 j), (1, i64 k), (2, i64 (S t)), (3, ptr bf 0), (4, ptr bh 0), (5, ptr bo 0), (6, ptr br 0)]) (fun c => H.set bo (bys (rowsTo (tfs h.p h.m S T a t i l) (tfs h.p h.m S T a t i (l + 1)) (8 * c)))) (fun _ => True) (by (repeat first | exact trivial | refine And.intro rfl ?_))
        (by rw [show rowsTo (tfs h.p h.m S T a t i l) (tfs h.p h.m S T a t i (l + 1)) (8 * 0) = tfs h.p h.m S T a t i l from rowsTo_zero _ _]; exact Drops.refl _ _) trivial ?_
      intro c n3 hc hn3 _
      (repeat first|refine zG ?_|(refine LS.nilO ?_;intro nq hnq hltq;try refine zU ?_)|(refine MS.new ?_;intro bq hbq hbqf;try refine zU ?_)|(refine MS.nil ?_;intro nq hnq hltq;have hlq:=hltq _ _ (Hp.get_eq _ _ _);clear hltq;try refine zU ?_)|(refine LS.nilQ ?_;try with_reducible intro nq hnq;try refine zU ?_))
      refine zI ?_ ?_<;>intro h3
      · (repeat first|refine zG ?_|(refine LS.nilO ?_;intro nq hnq hltq;try refine zU ?_)|(refine MS.new ?_;intro bq hbq hbqf;try refine zU ?_)|(refine MS.nil ?_;intro nq hnq hltq;have hlq:=hltq _ _ (Hp.get_eq _ _ _);clear hltq;try refine zU ?_)|(refine LS.nilQ ?_;try with_reducible intro nq hnq;try refine zU ?_))
        refine CS.iter 8 (fun d => [(46, i64 d), (45, .arr 8 (bys (fun x => h.m (64 * k + 8 * l + x)))), (34, i64 c), (33, .arr 8 (bys (fun x => h.m (64 * j + 8 * i + x)))), (12, i64 c), (13, u8 (h.m (64 * j + 8 * i + c))), (11, i64 l), (23, i64 l), (22, i64 a), (10, i64 i), (18, i64 i), (17, i64 a), (0, i64 j), (1, i64 k), (2, i64 (S t)), (3, ptr bf 0), (4, ptr bh 0), (5, ptr bo 0), (6, ptr br 0)]) (fun d => H.set bo (bys (rowsTo (tfs h.p h.m S T a t i l) (tfs h.p h.m S T a t i (l + 1)) (8 * c + d)))) (fun _ => True) (by (repeat first | exact trivial | refine And.intro rfl ?_)) (Drops.refl _ _) trivial ?_
        intro d n4 hd hn4 _
        (repeat first|refine zG ?_|(refine LS.nilO ?_;intro nq hnq hltq;try refine zU ?_)|(refine MS.new ?_;intro bq hbq hbqf;try refine zU ?_)|(refine MS.nil ?_;intro nq hnq hltq;have hlq:=hltq _ _ (Hp.get_eq _ _ _);clear hltq;try refine zU ?_)|(refine LS.nilQ ?_;try with_reducible intro nq hnq;try refine zU ?_))
        refine zI ?_ ?_<;>intro h4
        · have hy := hB.m (64 * j + 8 * i + c) (by omega)
          have hz := hB.m (64 * k + 8 * l + d) (by omega)
          have hm1 := mulB hst.1 hst.2 hy.1 hy.2
          have hr1 := modB (S t * h.m (64 * j + 8 * i + c)) hp.1
          have hm2 := mulB hr1.1 (show _ ≤ 31 by omega) hz.1 hz.2
          have gT' : (H.set bo (bys (rowsTo (tfs h.p h.m S T a t i l) (tfs h.p h.m S T a t i (l + 1)) (8 * c + d)))).get bT = some KT := by rw [Hp.get_set_other _ d5]; exact gT
          have hT2 := fun x (hx : x < 8) => hT (64 * i + 8 * l + x) (by omega)
          (repeat first|refine zG ?_|(refine LS.nilO ?_;intro nq hnq hltq;try refine zU ?_)|(refine MS.new ?_;intro bq hbq hbqf;try refine zU ?_)|(refine MS.nil ?_;intro nq hnq hltq;have hlq:=hltq _ _ (Hp.get_eq _ _ _);clear hltq;try refine zU ?_)|(refine LS.nilQ ?_;try with_reducible intro nq hnq;try refine zU ?_))
          refine RS.call rfl ((field_plus h.p a (S t * h.m (64 * j + 8 * i + c) % h.p * h.m (64 * k + 8 * l + d)) (fun y => tfs h.p h.m S T a t i l (64 * c + 8 * d + y)) (fun y => T (64 * i + 8 * l + y)) bo (64 * c + 8 * d) ⟨512, bys (rowsTo (tfs h.p h.m S T a t i l) (tfs h.p h.m S T a t i (l + 1)) (8 * c + d)), 33⟩ _ _ hp (Hp.get_set_self _ go) (show 64 * c + 8 * d + 8 ≤ 512 by omega)
            (fun y hy => by simp only [bys, rowsTo]; rw [if_neg (by omega)]) (fun y hy => tfs_res hp.1 _ _ _ _ _ _ _ 512 _ (by omega)) (fun x hx => hT2 x hx) (by omega)).mono ?_)
          rintro r H' n6 hn6 ⟨rfl, rfl⟩
          (repeat first|refine zG ?_|(refine LS.nilO ?_;intro nq hnq hltq;try refine zU ?_)|(refine MS.new ?_;intro bq hbq hbqf;try refine zU ?_)|(refine MS.nil ?_;intro nq hnq hltq;have hlq:=hltq _ _ (Hp.get_eq _ _ _);clear hltq;try refine zU ?_)|(refine LS.nilQ ?_;try with_reducible intro nq hnq;try refine zU ?_))
          rw [Hp.set_set]
          refine ⟨by omega, by (repeat first | exact trivial | refine And.intro rfl ?_), Drops.setc go (fun q hq => ?_), trivial⟩
          rw [show 64 * c + 8 * d = 8 * (8 * c + d) by omega]
          refine rowsTo_step (fun y hy => ?_) q
          rw [← tfs_row _ _ _ _ _ _ _ _ _ _ _ (by omega) hy, ht, show (8 * j + k) / 8 = j by omega, show (8 * j + k) % 8 = k by omega, show 8 * (8 * c + d) = 64 * c + 8 * d by omega]
        · have : d = 8 := by omega
          subst this
          (repeat first|refine zG ?_|(refine LS.nilO ?_;intro nq hnq hltq;try refine zU ?_)|(refine MS.new ?_;intro bq hbq hbqf;try refine zU ?_)|(refine MS.nil ?_;intro nq hnq hltq;have hlq:=hltq _ _ (Hp.get_eq _ _ _);clear hltq;try refine zU ?_)|(refine LS.nilQ ?_;try with_reducible intro nq hnq;try refine zU ?_))
          exact ⟨by omega, by (repeat first | exact trivial | refine And.intro rfl ?_), Drops.refl _ _, trivial⟩
      · have : c = 8 := by omega
        subst this
        (repeat first|refine zG ?_|(refine LS.nilO ?_;intro nq hnq hltq;try refine zU ?_)|(refine MS.new ?_;intro bq hbq hbqf;try refine zU ?_)|(refine MS.nil ?_;intro nq hnq hltq;have hlq:=hltq _ _ (Hp.get_eq _ _ _);clear hltq;try refine zU ?_)|(refine LS.nilQ ?_;try with_reducible intro nq hnq;try refine zU ?_))
        exact ⟨by omega, by (repeat first | exact trivial | refine And.intro rfl ?_), Drops.setc go (fun q hq => by unfold bys rowsTo; rw [if_pos (by omega)]), trivial⟩
    · have : l = a := by omega
      subst this
      (repeat first|refine zG ?_|(refine LS.nilO ?_;intro nq hnq hltq;try refine zU ?_)|(refine MS.new ?_;intro bq hbq hbqf;try refine zU ?_)|(refine MS.nil ?_;intro nq hnq hltq;have hlq:=hltq _ _ (Hp.get_eq _ _ _);clear hltq;try refine zU ?_)|(refine LS.nilQ ?_;try with_reducible intro nq hnq;try refine zU ?_))
      exact ⟨by omega, by (repeat first | exact trivial | refine And.intro rfl ?_), by rw [tfs_nextj]; exact Drops.refl _ _, trivial⟩
  · have : i = a := by omega
    subst this
    (repeat first|refine zG ?_|(refine LS.nilO ?_;intro nq hnq hltq;try refine zU ?_)|(refine MS.new ?_;intro bq hbq hbqf;try refine zU ?_)|(refine MS.nil ?_;intro nq hnq hltq;have hlq:=hltq _ _ (Hp.get_eq _ _ _);clear hltq;try refine zU ?_)|(refine LS.nilQ ?_;try with_reducible intro nq hnq;try refine zU ?_))
    exact ⟨_, _, rfl, by rw [tfs_nexti]; exact Drops.refl _ _, rfl⟩
end Go.Proofs.YtbknndbfbebkdabGreatR
