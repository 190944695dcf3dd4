/- Contracts of the program's functions. -/
import Derived.Test.YtbknndbfbebkdabGreatRR
import Derived.Test.YtbknndbfbebkdabGreatRLW
import Derived.Test.YtbknndbfbebkdabGreatRF2a
import Derived.Test.YtbknndbfbebkdabGreatRF2b
namespace Go.Proofs.YtbknndbfbebkdabGreatR
open Go.V
set_option linter.unusedSimpArgs false
set_option linter.unusedVariables false
set_option maxHeartbeats 4000000
/-- spec.l01Times -/
def ir30 : Cd := (.seq (.reg [⟨some 3,none,.box 61 (.t 0)⟩,⟨some 4,none,.box 27 (.t 1)⟩,⟨some 5,none,.box 27 (.t 2)⟩,⟨some 6,none,.new 27 [(8,(.int .u8 0))]⟩]) (.seq (.reg [⟨some 9,none,.build 8 [(8,(.int .u8 0))] []⟩,⟨some 7,none,.new 27 [(8,(.int .u8 0))]⟩,⟨none,none,.st 8 (.t 7) (.t 9)⟩]) (.seq (.seq (.reg [⟨some 8,none,.mov (.c (.int .i64 0))⟩]) (.block 0 (.loop (.seq (.seq (.reg [⟨some 10,none,.mov (.t 8)⟩,⟨some 11,none,.fa 1 (.t 3)⟩,⟨some 12,none,.ld none (.t 11)⟩,⟨some 13,none,.bin .lss (.t 10) (.t 12)⟩]) (.cond (.t 13) .skip (.exit 0))) (.seq (.block 1 (.seq (.reg [⟨some 16,none,.mov (.t 8)⟩,⟨some 17,none,.ia 8 1 (.t 4) (.t 16)⟩,⟨some 18,none,.ld none (.t 17)⟩,⟨some 19,none,.bin .neq (.t 18) (.c (.int .u8 0))⟩]) (.cond (.t 19) (.drwo true [17,18] [0,1,2,3,4,5,6,7,8,9,10,11,13,14,15,16,12,17,18] [⟨some 20,none,.fa 0 (.t 3)⟩,⟨some 21,none,.ld none (.t 20)⟩,⟨some 22,none,.ld (some 8) (.t 7)⟩,⟨some 23,none,.fa 0 (.t 3)⟩,⟨some 24,none,.ld none (.t 23)⟩,⟨some 25,none,.fa 1 (.t 3)⟩,⟨some 26,none,.ld none (.t 25)⟩,⟨some 27,none,.mov (.t 8)⟩,⟨some 28,none,.fa 10 (.t 3)⟩,⟨some 29,none,.ia 8 64 (.t 28) (.t 27)⟩,⟨some 30,none,.ld (some 64) (.t 29)⟩,⟨some 31,none,.ld (some 8) (.t 5)⟩,⟨some 32,none,.call 29 [(.t 24),(.t 26),(.t 30),(.t 31)]⟩,⟨some 33,none,.mov (.t 8)⟩,⟨some 34,none,.ia 8 1 (.t 4) (.t 33)⟩,⟨some 35,none,.ld none (.t 34)⟩,⟨some 36,none,.cv .i64 (.t 35)⟩,⟨some 37,none,.call 47 [(.t 21),(.t 22),(.t 32),(.t 36)]⟩,⟨none,none,.st 8 (.t 7) (.t 37)⟩]) .skip))) (.reg [⟨some 14,none,.mov (.t 8)⟩,⟨some 15,none,.bin .add (.t 14) (.c (.int .i64 1))⟩,⟨some 8,none,.mov (.t 15)⟩])))))) (.seq (.reg [⟨some 38,none,.ld (some 8) (.t 7)⟩,⟨none,none,.st 8 (.t 6) (.t 38)⟩]) .ret))))
set_option maxRecDepth 100000 in
theorem tr30 : trFn Tryz.prog Tryz.f30 = some (39, ir30, [.cell (some 8) 6]) := by kernel_rfl
theorem spec_l01Times (p : Int) (a : Nat) (m v w : Nat → Int) (K : Nat → SV) (H : Hp) (n : Nat) (hp : 2 ≤ p ∧ p ≤ 31) (ha : a ≤ 8) (h0 : K 0 = .int .i64 p) (h1 : K 1 = .int .i64 a)
    (hK : ∀ q, q < 512 → K (10 + q) = .int .u8 (m q)) (hm : isBy 512 m) (hv : isBy 8 v) (hw : isBy 8 w) :
    FnS Tryz.prog 30 [.arr 522 K, .arr 8 (bys v), .arr 8 (bys w)] H n (fun r H' _ => r = .arr 8 (bys (pr p m v w a)) ∧ H' = H) := by
  refine FnS.of_body Tryz.func30 tr30 (by simp) (fun hf => ?_)
  dsimp only [argEnv]
  unfold ir30
  (repeat first|refine zG ?_|(refine LS.nilO ?_;intro nq hnq hltq;try refine zU ?_)|(refine MS.new ?_;intro bq hbq hbqf;try refine zU ?_)|(refine MS.nil ?_;intro nq hnq hltq;have hlq:=hltq _ _ (Hp.get_eq _ _ _);clear hltq;try refine zU ?_)|(refine LS.nilQ ?_;try with_reducible intro nq hnq;try refine zU ?_))
  refine CS.iter a (fun i => [(8, i64 i), (3, ptr n 0), (4, ptr (n + 1) 0), (5, ptr (n + 2) 0), (6, ptr (n + 3) 0), (7, ptr (n + 4) 0)])
    (fun i => (n + 4, ⟨8, bys (pk p m v w a i 0), 27⟩) :: (n + 3, ⟨8, bys (fun _ => 0), 27⟩) :: (n + 2, ⟨8, bys w, 27⟩) :: (n + 1, ⟨8, bys v, 27⟩) :: (n, ⟨522, K, 61⟩) :: H) (fun _ => True) (by (repeat first | exact trivial | refine And.intro rfl ?_))
    (Drops.keepc rfl rfl (fun _ _ => by rw [pk_zero]; rfl) (Drops.keepc rfl rfl (fun _ _ => rfl) (Drops.refl _ _))) trivial ?_
  intro i n1 hi hn _
  (repeat first|refine zG ?_|(refine LS.nilO ?_;intro nq hnq hltq;try refine zU ?_)|(refine MS.new ?_;intro bq hbq hbqf;try refine zU ?_)|(refine MS.nil ?_;intro nq hnq hltq;have hlq:=hltq _ _ (Hp.get_eq _ _ _);clear hltq;try refine zU ?_)|(refine LS.nilQ ?_;try with_reducible intro nq hnq;try refine zU ?_))
  refine zI ?_ ?_<;>intro h2
  · have hvi := hv i (by omega)
    (repeat first|refine zG ?_|(refine LS.nilO ?_;intro nq hnq hltq;try refine zU ?_)|(refine MS.new ?_;intro bq hbq hbqf;try refine zU ?_)|(refine MS.nil ?_;intro nq hnq hltq;have hlq:=hltq _ _ (Hp.get_eq _ _ _);clear hltq;try refine zU ?_)|(refine LS.nilQ ?_;try with_reducible intro nq hnq;try refine zU ?_))
    refine zI ?_ ?_<;>intro h3
    · (repeat first|refine zG ?_|(refine LS.nilO ?_;intro nq hnq hltq;try refine zU ?_)|(refine MS.new ?_;intro bq hbq hbqf;try refine zU ?_)|(refine MS.nil ?_;intro nq hnq hltq;have hlq:=hltq _ _ (Hp.get_eq _ _ _);clear hltq;try refine zU ?_)|(refine LS.nilQ ?_;try with_reducible intro nq hnq;try refine zU ?_))
      refine CS.tailLo _ (List.Mem.head _) ?_; dsimp only [List.take, List.drop]
      (repeat first|refine zG ?_|(refine LS.nilO ?_;intro nq hnq hltq;try refine zU ?_)|(refine MS.new ?_;intro bq hbq hbqf;try refine zU ?_)|(refine MS.nil ?_;intro nq hnq hltq;have hlq:=hltq _ _ (Hp.get_eq _ _ _);clear hltq;try refine zU ?_)|(refine LS.nilQ ?_;try with_reducible intro nq hnq;try refine zU ?_))
      refine LS.callQ (.arr 8 (bys (apk p (fun q => m (64 * i + q)) w a))) rfl (fun n' hn' => spec_l01Apply p a (fun q => m (64 * i + q)) w _ _ hp ha (fun q hq => hm _ (by omega)) hw) ?_
      (repeat first|refine zG ?_|(refine LS.nilO ?_;intro nq hnq hltq;try refine zU ?_)|(refine MS.new ?_;intro bq hbq hbqf;try refine zU ?_)|(refine MS.nil ?_;intro nq hnq hltq;have hlq:=hltq _ _ (Hp.get_eq _ _ _);clear hltq;try refine zU ?_)|(refine LS.nilQ ?_;try with_reducible intro nq hnq;try refine zU ?_))
      refine RS.call rfl ((spec_l01Add p (v i) (pk p m v w a i 0) (apk p (fun q => m (64 * i + q)) w a) _ _ hp (fun q hq => by have := pk_res hp.1 m v w a i 0 8 q hq; omega) (fun q hq => by have := apk_res hp.1 (fun q => m (64 * i + q)) w a 8 q hq; omega) (by omega)).mono ?_)
      rintro r H' n2 hn2 ⟨rfl, rfl⟩
      (repeat first|refine zG ?_|(refine LS.nilO ?_;intro nq hnq hltq;try refine zU ?_)|(refine MS.new ?_;intro bq hbq hbqf;try refine zU ?_)|(refine MS.nil ?_;intro nq hnq hltq;have hlq:=hltq _ _ (Hp.get_eq _ _ _);clear hltq;try refine zU ?_)|(refine LS.nilQ ?_;try with_reducible intro nq hnq;try refine zU ?_))
      exact ⟨by omega, by (repeat first | exact trivial | refine And.intro rfl ?_), Drops.keepc rfl rfl (fun q hq => by rw [pk_whole]) (Drops.refl _ _), trivial⟩
    · (repeat first|refine zG ?_|(refine LS.nilO ?_;intro nq hnq hltq;try refine zU ?_)|(refine MS.new ?_;intro bq hbq hbqf;try refine zU ?_)|(refine MS.nil ?_;intro nq hnq hltq;have hlq:=hltq _ _ (Hp.get_eq _ _ _);clear hltq;try refine zU ?_)|(refine LS.nilQ ?_;try with_reducible intro nq hnq;try refine zU ?_))
      exact ⟨by omega, by (repeat first | exact trivial | refine And.intro rfl ?_), by rw [pk_skip h3]; exact Drops.refl _ _, trivial⟩
  · have : i = a := by omega
    subst this
    (repeat first|refine zG ?_|(refine LS.nilO ?_;intro nq hnq hltq;try refine zU ?_)|(refine MS.new ?_;intro bq hbq hbqf;try refine zU ?_)|(refine MS.nil ?_;intro nq hnq hltq;have hlq:=hltq _ _ (Hp.get_eq _ _ _);clear hltq;try refine zU ?_)|(refine LS.nilQ ?_;try with_reducible intro nq hnq;try refine zU ?_))
    exact ⟨.arr 8 (bys (pr p m v w i)), H, conc_arr (fun q hq => by simp only [Nat.zero_add]; rfl), by exact zD, rfl, rfl⟩
/-- (impl.field).pair -/
def ir99 : Cd := (.seq (.reg [⟨some 3,none,.box 85 (.t 0)⟩,⟨some 4,none,.box 27 (.t 1)⟩,⟨some 5,none,.box 27 (.t 2)⟩,⟨some 6,none,.new 29 [(64,(.int .u8 0))]⟩]) (.seq (.reg [⟨some 10,none,.build 64 [(64,(.int .u8 0))] []⟩,⟨some 7,none,.new 29 [(64,(.int .u8 0))]⟩,⟨none,none,.st 64 (.t 7) (.t 10)⟩]) (.seq (.seq (.reg [⟨some 11,none,.ld (some 8) (.t 4)⟩,⟨some 12,none,.mov (.c (.int .i64 0))⟩]) (.block 0 (.loop (.seq (.reg [⟨some 13,none,.bin .lss (.t 12) (.c (.int .i64 8))⟩]) (.seq (.cond (.t 13) .skip (.exit 0)) (.seq (.block 1 (.seq (.reg [⟨some 14,none,.mov (.t 12)⟩,⟨some 15,none,.ix 8 1 none (.t 11) (.t 12)⟩,⟨some 8,none,.mov (.t 14)⟩,⟨some 9,none,.mov (.t 15)⟩]) (.reg [⟨some 16,none,.mov (.t 8)⟩,⟨some 17,none,.ld (some 2) (.t 3)⟩,⟨some 18,none,.mov (.t 9)⟩,⟨some 19,none,.cv .i64 (.t 18)⟩,⟨some 20,none,.ld (some 8) (.t 5)⟩,⟨some 21,none,.call 122 [(.t 17),(.t 19),(.t 20)]⟩,⟨some 22,none,.ia 8 8 (.t 7) (.t 16)⟩,⟨none,none,.st 8 (.t 22) (.t 21)⟩]))) (.reg [⟨some 23,none,.bin .add (.t 12) (.c (.int .i64 1))⟩,⟨some 12,none,.mov (.t 23)⟩]))))))) (.seq (.reg [⟨some 24,none,.ld (some 64) (.t 7)⟩,⟨none,none,.st 64 (.t 6) (.t 24)⟩]) .ret))))
set_option maxRecDepth 100000 in
theorem tr99 : trFn Tryz.prog Tryz.f99 = some (25, ir99, [.cell (some 64) 6]) := by kernel_rfl
theorem field_pair (p n' : Int) (v w : Nat → Int) (H : Hp) (n : Nat) (hp : 2 ≤ p ∧ p ≤ 31) (hv : isBy 8 v) (hw : isBy 8 w) :
    FnS Tryz.prog 99 [fld p n', .arr 8 (bys v), .arr 8 (bys w)] H n (fun r H' _ => r = .arr 64 (bys (outer p v w)) ∧ H' = H) := by
  refine FnS.of_body Tryz.func99 tr99 (by simp) (fun hf => ?_)
  dsimp only [argEnv]
  unfold ir99
  (repeat first|refine zG ?_|(refine LS.nilO ?_;intro nq hnq hltq;try refine zU ?_)|(refine MS.new ?_;intro bq hbq hbqf;try refine zU ?_)|(refine MS.nil ?_;intro nq hnq hltq;have hlq:=hltq _ _ (Hp.get_eq _ _ _);clear hltq;try refine zU ?_)|(refine LS.nilQ ?_;try with_reducible intro nq hnq;try refine zU ?_))
  refine CS.iter 8 (fun i => [(12, i64 i), (11, .arr 8 (bys v)), (3, ptr n 0), (5, ptr (n + 2) 0), (6, ptr (n + 3) 0), (7, ptr (n + 4) 0)])
    (fun i => (n + 4, ⟨64, bys (rowsTo (fun _ => 0) (outer p v w) i), 29⟩) :: (n + 3, ⟨64, bys (fun _ => 0), 29⟩) :: (n + 2, ⟨8, bys w, 27⟩) :: (n + 1, ⟨8, bys v, 27⟩) :: (n, ⟨2, fldC p n', 85⟩) :: H) (fun _ => True) (by (repeat first | exact trivial | refine And.intro rfl ?_))
    (Drops.keepc rfl rfl (fun _ _ => by rw [rowsTo_zero]; rfl) (Drops.keepc rfl rfl (fun _ _ => rfl) (Drops.refl _ _))) trivial ?_
  intro i n1 hi hn _
  (repeat first|refine zG ?_|(refine LS.nilO ?_;intro nq hnq hltq;try refine zU ?_)|(refine MS.new ?_;intro bq hbq hbqf;try refine zU ?_)|(refine MS.nil ?_;intro nq hnq hltq;have hlq:=hltq _ _ (Hp.get_eq _ _ _);clear hltq;try refine zU ?_)|(refine LS.nilQ ?_;try with_reducible intro nq hnq;try refine zU ?_))
  refine zI ?_ ?_<;>intro h1
  · have hvi := hv i (by omega)
    (repeat first|refine zG ?_|(refine LS.nilO ?_;intro nq hnq hltq;try refine zU ?_)|(refine MS.new ?_;intro bq hbq hbqf;try refine zU ?_)|(refine MS.nil ?_;intro nq hnq hltq;have hlq:=hltq _ _ (Hp.get_eq _ _ _);clear hltq;try refine zU ?_)|(refine LS.nilQ ?_;try with_reducible intro nq hnq;try refine zU ?_))
    refine RS.call rfl ((field_times p n' (v i) w _ _ hp hw (by omega)).mono ?_)
    rintro r H n2 hn2 ⟨rfl, rfl⟩
    (repeat first|refine zG ?_|(refine LS.nilO ?_;intro nq hnq hltq;try refine zU ?_)|(refine MS.new ?_;intro bq hbq hbqf;try refine zU ?_)|(refine MS.nil ?_;intro nq hnq hltq;have hlq:=hltq _ _ (Hp.get_eq _ _ _);clear hltq;try refine zU ?_)|(refine LS.nilQ ?_;try with_reducible intro nq hnq;try refine zU ?_))
    exact ⟨by omega, by (repeat first | exact trivial | refine And.intro rfl ?_), Drops.keepc rfl rfl (fun q hq => rowsTo_step (fun y hy => outer_row _ _ _ _ _ hy) q) (Drops.refl _ _), trivial⟩
  · have : i = 8 := by omega
    subst this
    (repeat first|refine zG ?_|(refine LS.nilO ?_;intro nq hnq hltq;try refine zU ?_)|(refine MS.new ?_;intro bq hbq hbqf;try refine zU ?_)|(refine MS.nil ?_;intro nq hnq hltq;have hlq:=hltq _ _ (Hp.get_eq _ _ _);clear hltq;try refine zU ?_)|(refine LS.nilQ ?_;try with_reducible intro nq hnq;try refine zU ?_))
    exact ⟨.arr 64 (bys (outer p v w)), H, conc_arr (fun q hq => by simp only [Nat.zero_add, bys]; rw [rowsTo_all (n := 8) (N := 64) (fun q h1 h2 => by omega) hq]), by exact zD, rfl, rfl⟩
/-- (*impl.Hopf).folded$1 -/
def ir141 : Cd := (.seq (.reg [⟨some 10,none,.ld none (.t 3)⟩]) (.cond (.t 10) (.drwo true [12] [0,1,2,3,4,5,6,7,8,9,10,11,12] [⟨some 11,none,.ld (some 2) (.t 4)⟩,⟨some 12,none,.mov (.t 2)⟩,⟨some 13,none,.ld none (.t 6)⟩,⟨some 14,none,.ld none (.t 6)⟩,⟨some 15,none,.mov (.t 0)⟩,⟨some 16,none,.ck (.t 14)⟩,⟨some 17,none,.fa 1042 (.t 16)⟩,⟨some 18,none,.ia 8 8 (.t 17) (.t 15)⟩,⟨some 19,none,.ld (some 8) (.t 18)⟩,⟨some 20,none,.mov (.t 1)⟩,⟨some 21,none,.call 34 [(.t 20)]⟩,⟨some 22,none,.call 32 [(.t 13),(.t 19),(.t 21)]⟩,⟨some 23,none,.call 50 [(.t 11),(.t 5),(.t 12),(.t 22)]⟩]) (.drwo true [12] [0,1,2,3,5,6,7,8,9,10,4,11,12] [⟨some 24,none,.ld (some 2) (.t 4)⟩,⟨some 25,none,.mov (.t 2)⟩,⟨some 26,none,.ld none (.t 6)⟩,⟨some 27,none,.mov (.t 0)⟩,⟨some 28,none,.call 34 [(.t 27)]⟩,⟨some 29,none,.ld none (.t 6)⟩,⟨some 30,none,.mov (.t 1)⟩,⟨some 31,none,.ck (.t 29)⟩,⟨some 32,none,.fa 1042 (.t 31)⟩,⟨some 33,none,.ia 8 8 (.t 32) (.t 30)⟩,⟨some 34,none,.ld (some 8) (.t 33)⟩,⟨some 35,none,.call 32 [(.t 26),(.t 28),(.t 34)]⟩,⟨some 36,none,.call 50 [(.t 24),(.t 5),(.t 25),(.t 35)]⟩])))
set_option maxRecDepth 100000 in
theorem tr141 : trFn Tryz.prog Tryz.f141 = some (37, ir141, []) := by kernel_rfl
theorem Hopf_folded_1 (h : HT) (a : Nat) (i t j k : Nat) (fp : Bool) (g : Nat → Nat → Int) (hg : g = if fp = true then g6 h.p h.m h.s a else g7 h.p h.m h.s a) (hi : i < 8) (ht : t = 8 * j + k) (hj : j < 8) (hk : k < 8)
    (b bq bf bo bh : Nat) (K Kq Kh : Blk) (H : Hp) (n : Nat) (hS : HS h a) (hb : H.get b = some K) (hsz : K.size = 1106) (hK : h.At K.c) (hB : h.By)
    (gq : H.get bq = some Kq) (sq : Kq.size = 1) (cq : Kq.c 0 = .bool fp) (gf : H.get bf = some ⟨2, fldC h.p a, 85⟩)
    (go : H.get bo = some ⟨8, bys (fold h.p h.c i g t), 27⟩) (gh : H.get bh = some Kh) (sh : Kh.size = 1) (ch : Kh.c 0 = .ptr b 0) :
    FnS Tryz.prog 141 [i64 j, i64 k, i64 (h.c (64 * i + t)), ptr bq 0, ptr bf 0, ptr bo 0, ptr bh 0] H n (fun _ H' _ => H' = H.set bo (bys (fold h.p h.c i g (t + 1)))) := by
  have hp := hS.hp
  have ha := hS.ha
  have hk5 := hK.s
  have hct := hB.c (64 * i + t) (by omega)
  refine FnS.of_body Tryz.func141 tr141 (by simp) (fun hf => ?_)
  dsimp only [argEnv]
  unfold ir141
  have hbn := getlt hf hb
  cases fp
  · have hg7 : g = g7 h.p h.m h.s a := by rw [hg]; rfl
    (repeat first|refine zG ?_|(refine LS.nilO ?_;intro nq hnq hltq;try refine zU ?_)|(refine MS.new ?_;intro bq hbq hbqf;try refine zU ?_)|(refine MS.nil ?_;intro nq hnq hltq;have hlq:=hltq _ _ (Hp.get_eq _ _ _);clear hltq;try refine zU ?_)|(refine LS.nilQ ?_;try with_reducible intro nq hnq;try refine zU ?_))
    refine CS.tailLo _ (List.Mem.head _) ?_; dsimp only [List.take, List.drop]
    (repeat first|refine zG ?_|(refine LS.nilO ?_;intro nq hnq hltq;try refine zU ?_)|(refine MS.new ?_;intro bq hbq hbqf;try refine zU ?_)|(refine MS.nil ?_;intro nq hnq hltq;have hlq:=hltq _ _ (Hp.get_eq _ _ _);clear hltq;try refine zU ?_)|(refine LS.nilQ ?_;try with_reducible intro nq hnq;try refine zU ?_))
    refine LS.callQ (.arr 8 (bys (bas j))) rfl (fun n' hn' => impl_basis j _ _ (by omega)) ?_
    (repeat first|refine zG ?_|(refine LS.nilO ?_;intro nq hnq hltq;try refine zU ?_)|(refine MS.new ?_;intro bq hbq hbqf;try refine zU ?_)|(refine MS.nil ?_;intro nq hnq hltq;have hlq:=hltq _ _ (Hp.get_eq _ _ _);clear hltq;try refine zU ?_)|(refine LS.nilQ ?_;try with_reducible intro nq hnq;try refine zU ?_))
    refine LS.callQ (.arr 8 (bys (g t))) rfl (fun n' hn' => by
      rw [hg7]; unfold g7; rw [ht, show (8 * j + k) / 8 = j by omega, show (8 * j + k) % 8 = k by omega]
      exact Hopf_product h a (bas j) (fun y => h.s (8 * k + y)) b K _ _ hS (by exact zH) hsz hK hB (bas_by _ _) (hB.rows (by omega))) ?_
    (repeat first|refine zG ?_|(refine LS.nilO ?_;intro nq hnq hltq;try refine zU ?_)|(refine MS.new ?_;intro bq hbq hbqf;try refine zU ?_)|(refine MS.nil ?_;intro nq hnq hltq;have hlq:=hltq _ _ (Hp.get_eq _ _ _);clear hltq;try refine zU ?_)|(refine LS.nilQ ?_;try with_reducible intro nq hnq;try refine zU ?_))
    refine RS.call rfl ((field_plus h.p a (h.c (64 * i + t)) (fold h.p h.c i g t) (g t) bo 0 _ _ _ hp (by exact zH) (by simp) (fun _ _ => by rw [Nat.zero_add]; rfl) (fold_res hp.1 _ _ _ _ _) (by rw [hg7]; exact (g7_res hp.1 _ _ _ _ _).by hp.2) (by omega)).mono ?_)
    rintro r H' n5 hn5 ⟨rfl, rfl⟩
    (repeat first|refine zG ?_|(refine LS.nilO ?_;intro nq hnq hltq;try refine zU ?_)|(refine MS.new ?_;intro bq hbq hbqf;try refine zU ?_)|(refine MS.nil ?_;intro nq hnq hltq;have hlq:=hltq _ _ (Hp.get_eq _ _ _);clear hltq;try refine zU ?_)|(refine LS.nilQ ?_;try with_reducible intro nq hnq;try refine zU ?_))
    exact ⟨_, H.set bo (bys (fold h.p h.c i g (t + 1))), rfl, Drops.setc go (fun q hq => (splice_all _ _ 8 q hq).trans (by rw [fold_step])), rfl⟩
  · have hg6 : g = g6 h.p h.m h.s a := by rw [hg]; rfl
    (repeat first|refine zG ?_|(refine LS.nilO ?_;intro nq hnq hltq;try refine zU ?_)|(refine MS.new ?_;intro bq hbq hbqf;try refine zU ?_)|(refine MS.nil ?_;intro nq hnq hltq;have hlq:=hltq _ _ (Hp.get_eq _ _ _);clear hltq;try refine zU ?_)|(refine LS.nilQ ?_;try with_reducible intro nq hnq;try refine zU ?_))
    refine CS.tailLo _ (List.Mem.head _) ?_; dsimp only [List.take, List.drop]
    (repeat first|refine zG ?_|(refine LS.nilO ?_;intro nq hnq hltq;try refine zU ?_)|(refine MS.new ?_;intro bq hbq hbqf;try refine zU ?_)|(refine MS.nil ?_;intro nq hnq hltq;have hlq:=hltq _ _ (Hp.get_eq _ _ _);clear hltq;try refine zU ?_)|(refine LS.nilQ ?_;try with_reducible intro nq hnq;try refine zU ?_))
    refine LS.callQ (.arr 8 (bys (bas k))) rfl (fun n' hn' => impl_basis k _ _ (by omega)) ?_
    (repeat first|refine zG ?_|(refine LS.nilO ?_;intro nq hnq hltq;try refine zU ?_)|(refine MS.new ?_;intro bq hbq hbqf;try refine zU ?_)|(refine MS.nil ?_;intro nq hnq hltq;have hlq:=hltq _ _ (Hp.get_eq _ _ _);clear hltq;try refine zU ?_)|(refine LS.nilQ ?_;try with_reducible intro nq hnq;try refine zU ?_))
    refine LS.callQ (.arr 8 (bys (g t))) rfl (fun n' hn' => by
      rw [hg6]; unfold g6; rw [ht, show (8 * j + k) / 8 = j by omega, show (8 * j + k) % 8 = k by omega]
      exact Hopf_product h a (fun y => h.s (8 * j + y)) (bas k) b K _ _ hS (by exact zH) hsz hK hB (hB.rows (by omega)) (bas_by _ _)) ?_
    (repeat first|refine zG ?_|(refine LS.nilO ?_;intro nq hnq hltq;try refine zU ?_)|(refine MS.new ?_;intro bq hbq hbqf;try refine zU ?_)|(refine MS.nil ?_;intro nq hnq hltq;have hlq:=hltq _ _ (Hp.get_eq _ _ _);clear hltq;try refine zU ?_)|(refine LS.nilQ ?_;try with_reducible intro nq hnq;try refine zU ?_))
    refine RS.call rfl ((field_plus h.p a (h.c (64 * i + t)) (fold h.p h.c i g t) (g t) bo 0 _ _ _ hp (by exact zH) (by simp) (fun _ _ => by rw [Nat.zero_add]; rfl) (fold_res hp.1 _ _ _ _ _) (by rw [hg6]; exact (g6_res hp.1 _ _ _ _ _).by hp.2) (by omega)).mono ?_)
    rintro r H' n5 hn5 ⟨rfl, rfl⟩
    (repeat first|refine zG ?_|(refine LS.nilO ?_;intro nq hnq hltq;try refine zU ?_)|(refine MS.new ?_;intro bq hbq hbqf;try refine zU ?_)|(refine MS.nil ?_;intro nq hnq hltq;have hlq:=hltq _ _ (Hp.get_eq _ _ _);clear hltq;try refine zU ?_)|(refine LS.nilQ ?_;try with_reducible intro nq hnq;try refine zU ?_))
    exact ⟨_, H.set bo (bys (fold h.p h.c i g (t + 1))), rfl, Drops.setc go (fun q hq => (splice_all _ _ 8 q hq).trans (by rw [fold_step])), rfl⟩
/-- (*impl.Hopf).product1323$1 -/
def ir95 : Cd := (.seq (.reg [⟨some 7,none,.box 3 (.t 0)⟩,⟨some 8,none,.box 3 (.t 1)⟩,⟨some 9,none,.box 3 (.t 2)⟩]) (.reg [⟨some 10,none,.ld none (.t 3)⟩,⟨some 11,none,.mkf 96 [] [(.t 4),(.t 5),(.t 7),(.t 9),(.t 6),(.t 8)]⟩,⟨some 12,none,.call 51 [(.t 10),(.t 11)]⟩]))
set_option maxRecDepth 100000 in
theorem tr95 : trFn Tryz.prog Tryz.f95 = some (13, ir95, []) := by kernel_rfl
theorem Hopf_product1323_1 (h : HT) (a : Nat) (s : Nat → Int) (t j k : Nat) (ht : t = 8 * j + k) (hj : j < 8) (hk : k < 8)
    (b bs os br bh bf bo : Nat) (K Ks Kr Kh : Blk) (H : Hp) (n : Nat) (hS : HS h a) (hb : H.get b = some K) (hsz : K.size = 1106) (hK : h.At K.c) (hB : h.By) (hs : isBy 64 s)
    (gs : H.get bs = some Ks) (ss : os + 64 ≤ Ks.size) (cs : ∀ q, q < 64 → Ks.c (os + q) = .int .u8 (s q))
    (gr : H.get br = some Kr) (sr : Kr.size = 1) (cr : Kr.c 0 = .ptr bs os) (gh : H.get bh = some Kh) (sh : Kh.size = 1) (ch : Kh.c 0 = .ptr b 0) (gf : H.get bf = some ⟨2, fldC h.p a, 85⟩)
    (go : H.get bo = some ⟨512, bys (q23 h.p h.m s t 0), 33⟩) (d1 : bo ≠ b) (d2 : bo ≠ bh) (d3 : bo ≠ br) (d4 : bo ≠ bf) (d5 : bo ≠ bs) :
    FnS Tryz.prog 95 [i64 j, i64 k, i64 (s t), ptr br 0, ptr bf 0, ptr bo 0, ptr bh 0] H n (fun _ H' _ => H' = H.set bo (bys (q23 h.p h.m s (t + 1) 0))) := by
  have hp := hS.hp
  have hs0 : H.set bo (bys (q23 h.p h.m s t 0)) = H := Hp.set_self go
  refine FnS.of_body Tryz.func95 tr95 (by simp) (fun hf => ?_)
  dsimp only [argEnv]
  unfold ir95
  have hbn := getlt hf hb
  have hbn1 := getlt hf gs
  have hbn2 := getlt hf gr
  have hbn3 := getlt hf gh
  have hbn4 := getlt hf gf
  have hbn5 := getlt hf go
  (repeat first|refine zG ?_|(refine LS.nilO ?_;intro nq hnq hltq;try refine zU ?_)|(refine MS.new ?_;intro bq hbq hbqf;try refine zU ?_)|(refine MS.nil ?_;intro nq hnq hltq;have hlq:=hltq _ _ (Hp.get_eq _ _ _);clear hltq;try refine zU ?_)|(refine LS.nilQ ?_;try with_reducible intro nq hnq;try refine zU ?_))
  refine RS.call rfl ((impl_pairs s bs os _ _ (fun t2 => (n + 2, ⟨1, fun _ => .int .i64 (s t), 3⟩) :: (n + 1, ⟨1, fun _ => .int .i64 k, 3⟩) :: (n, ⟨1, fun _ => .int .i64 j, 3⟩) :: H.set bo (bys (q23 h.p h.m s t t2))) _ _ (by (try dsimp only); rw [hs0])
    (fun t2 ht2 => ⟨Ks, by exact zH, ss, cs⟩) hs (fun t2 ht2 hz => by (try dsimp only); rw [q23_same hz]) (fun t2 l i' n' ht2 ht2' hi' hz hn' => ?_)).mono ?_)
  · refine (Hopf_product1323_2 h a s t t2 j k l i' ht hj hk ht2' (by omega) hi' b bh n bf bo (n + 2) (n + 1) K Kh _ _ _ _ n' hS (by exact zH) hsz hK hB hs (by exact zH) sh ch (by exact zH) rfl rfl (by exact zH) (by simp (disch := omega) only [Hp.get_ne]; exact Hp.get_set_self _ go) (by exact zH) rfl rfl (by exact zH) rfl rfl d1 d2 (by omega) d4 (by omega) (by omega)).mono ?_
    rintro r H' n2 hn2 rfl
    simp (disch := omega) only [Hp.set_eq, Hp.set_ne, Hp.set_set]
  rintro r H' n2 hn2 rfl
  (repeat first|refine zG ?_|(refine LS.nilO ?_;intro nq hnq hltq;try refine zU ?_)|(refine MS.new ?_;intro bq hbq hbqf;try refine zU ?_)|(refine MS.nil ?_;intro nq hnq hltq;have hlq:=hltq _ _ (Hp.get_eq _ _ _);clear hltq;try refine zU ?_)|(refine LS.nilQ ?_;try with_reducible intro nq hnq;try refine zU ?_))
  exact ⟨_, H.set bo (bys (q23 h.p h.m s (t + 1) 0)), rfl, by
    rw [q23_next]
    refine Drops.drop (by omega) ?_ (Drops.drop (by omega) ?_ (Drops.drop (by omega) ?_ (Drops.refl _ _))) <;> exact Hp.get_set_none _ (hf _ (by omega)), rfl⟩
/-- spec.l09Second -/
def ir75 : Cd := (.seq (.reg [⟨some 2,none,.box 35 (.t 0)⟩,⟨some 3,none,.box 29 (.t 1)⟩,⟨some 4,none,.new 33 [(512,(.int .u8 0))]⟩]) (.seq (.reg [⟨some 8,none,.fa 1 (.t 2)⟩,⟨some 9,none,.ld none (.t 8)⟩,⟨some 10,none,.build 512 [(512,(.int .u8 0))] []⟩,⟨some 6,none,.new 33 [(512,(.int .u8 0))]⟩,⟨some 5,none,.mov (.t 9)⟩,⟨none,none,.st 512 (.t 6) (.t 10)⟩]) (.seq (.seq (.reg [⟨some 7,none,.mov (.c (.int .i64 0))⟩]) (.block 0 (.loop (.seq (.seq (.reg [⟨some 11,none,.mov (.t 7)⟩,⟨some 12,none,.mov (.t 5)⟩,⟨some 13,none,.bin .lss (.t 11) (.t 12)⟩]) (.cond (.t 13) .skip (.exit 0))) (.seq (.block 1 (.drw true [7] [⟨some 16,none,.mov (.t 7)⟩,⟨some 17,none,.ld (some 1106) (.t 2)⟩,⟨some 18,none,.mov (.t 7)⟩,⟨some 19,none,.ia 8 8 (.t 3) (.t 18)⟩,⟨some 20,none,.ld (some 8) (.t 19)⟩,⟨some 21,none,.call 94 [(.t 17),(.t 20)]⟩,⟨some 22,none,.ia 8 64 (.t 6) (.t 16)⟩,⟨none,none,.st 64 (.t 22) (.t 21)⟩])) (.reg [⟨some 14,none,.mov (.t 7)⟩,⟨some 15,none,.bin .add (.t 14) (.c (.int .i64 1))⟩,⟨some 7,none,.mov (.t 15)⟩])))))) (.seq (.reg [⟨some 23,none,.ld (some 512) (.t 6)⟩,⟨none,none,.st 512 (.t 4) (.t 23)⟩]) .ret))))
set_option maxRecDepth 100000 in
theorem tr75 : trFn Tryz.prog Tryz.f75 = some (24, ir75, [.cell (some 512) 4]) := by kernel_rfl
theorem spec_l09Second (h : HT) (a : Nat) (s : Nat → Int) (K : Nat → SV) (H : Hp) (n : Nat) (hS : HS h a) (hK : h.At K) (hB : h.By) (hs : isBy 64 s) (hz : lz a s) :
    FnS Tryz.prog 75 [.arr 1106 K, .arr 64 (bys s)] H n (fun r H' _ => r = .arr 512 (bys (snd h.p h.c s)) ∧ H' = H) := by
  have hp := hS.hp
  have ha := hS.ha
  have hk0 := hK.p
  have hk1 := hK.n
  rw [hS.hn] at hk1
  refine FnS.of_body Tryz.func75 tr75 (by simp) (fun hf => ?_)
  dsimp only [argEnv]
  unfold ir75
  (repeat first|refine zG ?_|(refine LS.nilO ?_;intro nq hnq hltq;try refine zU ?_)|(refine MS.new ?_;intro bq hbq hbqf;try refine zU ?_)|(refine MS.nil ?_;intro nq hnq hltq;have hlq:=hltq _ _ (Hp.get_eq _ _ _);clear hltq;try refine zU ?_)|(refine LS.nilQ ?_;try with_reducible intro nq hnq;try refine zU ?_))
  refine CS.iter a (fun i => [(7, i64 i), (2, ptr n 0), (3, ptr (n + 1) 0), (4, ptr (n + 2) 0), (5, i64 a), (6, ptr (n + 3) 0)])
    (fun i => (n + 3, ⟨512, bys (tabsTo (fun _ => 0) (snd h.p h.c s) i), 33⟩) :: (n + 2, ⟨512, bys (fun _ => 0), 33⟩) :: (n + 1, ⟨64, bys s, 29⟩) :: (n, ⟨1106, K, 35⟩) :: H) (fun _ => True) (by (repeat first | exact trivial | refine And.intro rfl ?_))
    (Drops.keepc rfl rfl (fun _ _ => by rw [tabsTo_zero]; rfl) (Drops.keepc rfl rfl (fun _ _ => rfl) (Drops.refl _ _))) trivial ?_
  intro i n3 hi hn _
  (repeat first|refine zG ?_|(refine LS.nilO ?_;intro nq hnq hltq;try refine zU ?_)|(refine MS.new ?_;intro bq hbq hbqf;try refine zU ?_)|(refine MS.nil ?_;intro nq hnq hltq;have hlq:=hltq _ _ (Hp.get_eq _ _ _);clear hltq;try refine zU ?_)|(refine LS.nilQ ?_;try with_reducible intro nq hnq;try refine zU ?_))
  refine zI ?_ ?_<;>intro h2
  · have hr2 : ∀ q, q < 8 → (bys s) (8 * i + q) = .int .u8 (s (8 * i + q)) := fun y hy => rfl
    (repeat first|refine zG ?_|(refine LS.nilO ?_;intro nq hnq hltq;try refine zU ?_)|(refine MS.new ?_;intro bq hbq hbqf;try refine zU ?_)|(refine MS.nil ?_;intro nq hnq hltq;have hlq:=hltq _ _ (Hp.get_eq _ _ _);clear hltq;try refine zU ?_)|(refine LS.nilQ ?_;try with_reducible intro nq hnq;try refine zU ?_))
    refine LS.callQ (.arr 64 (bys (cps h.p h.c (fun x => s (8 * i + x)) 8))) rfl (fun n' hn' => FnS.args (concs_cons (conc_arr (fun q hq => rfl)) rfl) (spec_l03Coproduct h a (fun x => s (8 * i + x)) K _ _ hS hK hB (fun q hq => hs _ (by omega)))) ?_
    (repeat first|refine zG ?_|(refine LS.nilO ?_;intro nq hnq hltq;try refine zU ?_)|(refine MS.new ?_;intro bq hbq hbqf;try refine zU ?_)|(refine MS.nil ?_;intro nq hnq hltq;have hlq:=hltq _ _ (Hp.get_eq _ _ _);clear hltq;try refine zU ?_)|(refine LS.nilQ ?_;try with_reducible intro nq hnq;try refine zU ?_))
    refine ⟨by omega, by (repeat first | exact trivial | refine And.intro rfl ?_), Drops.keepc rfl rfl (fun q hq => tabsTo_step (fun y hy => ?_) q) (Drops.refl _ _), trivial⟩
    unfold snd
    rw [show (64 * i + y) / 64 = i by omega, show (64 * i + y) % 64 = y by omega]
  · have : i = a := by omega
    subst this
    (repeat first|refine zG ?_|(refine LS.nilO ?_;intro nq hnq hltq;try refine zU ?_)|(refine MS.new ?_;intro bq hbq hbqf;try refine zU ?_)|(refine MS.nil ?_;intro nq hnq hltq;have hlq:=hltq _ _ (Hp.get_eq _ _ _);clear hltq;try refine zU ?_)|(refine LS.nilQ ?_;try with_reducible intro nq hnq;try refine zU ?_))
    exact ⟨.arr 512 (bys (snd h.p h.c s)), H, conc_arr (fun q hq => by
      simp only [Nat.zero_add, bys, tabsTo]
      split
      · rfl
      · rw [snd_zero hz (by omega) hq]), by exact zD, rfl, rfl⟩
end Go.Proofs.YtbknndbfbebkdabGreatR
