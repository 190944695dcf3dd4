/- Contracts of the program's functions. -/
import Derived.Test.YtbknndbfbebkdabGreatRR
import Derived.Test.YtbknndbfbebkdabGreatRLW
import Derived.Test.YtbknndbfbebkdabGreatRE2b
import Derived.Test.YtbknndbfbebkdabGreatRE2c
namespace Go.Proofs.YtbknndbfbebkdabGreatR
open Go.V
set_option linter.unusedSimpArgs false
set_option linter.unusedVariables false
set_option maxHeartbeats 4000000
/-- spec.l01Shape -/
def ir90 : Cd := (.seq (.reg [⟨some 1,none,.box 61 (.t 0)⟩,⟨some 2,none,.mov (.c (.bool false))⟩]) (.seq (.reg [⟨some 3,none,.fa 0 (.t 1)⟩,⟨some 4,none,.ld none (.t 3)⟩,⟨some 5,none,.fa 1 (.t 1)⟩,⟨some 6,none,.ld none (.t 5)⟩,⟨some 7,none,.call 116 [(.t 4),(.t 6)]⟩,⟨some 8,none,.mov (.t 7)⟩,⟨some 9,(some (8,true)),.fa 0 (.t 1)⟩,⟨some 10,(some (8,true)),.ld none (.t 9)⟩,⟨some 11,(some (8,true)),.fa 1 (.t 1)⟩,⟨some 12,(some (8,true)),.ld none (.t 11)⟩,⟨some 13,(some (8,true)),.fa 2 (.t 1)⟩,⟨some 14,(some (8,true)),.ld (some 8) (.t 13)⟩,⟨some 15,(some (8,true)),.call 69 [(.t 10),(.t 12),(.t 14)]⟩,⟨some 16,none,.pick (.t 8) (.t 15) (.c (.bool false))⟩,⟨some 17,none,.mov (.t 16)⟩,⟨some 18,(some (17,true)),.fa 0 (.t 1)⟩,⟨some 19,(some (17,true)),.ld none (.t 18)⟩,⟨some 20,(some (17,true)),.fa 1 (.t 1)⟩,⟨some 21,(some (17,true)),.ld none (.t 20)⟩,⟨some 22,(some (17,true)),.fa 10 (.t 1)⟩,⟨some 23,(some (17,true)),.ld (some 512) (.t 22)⟩,⟨some 24,(some (17,true)),.call 91 [(.t 19),(.t 21),(.t 23)]⟩,⟨some 25,none,.pick (.t 17) (.t 24) (.c (.bool false))⟩,⟨some 2,none,.mov (.t 25)⟩]) .ret))
set_option maxRecDepth 100000 in
theorem tr90 : trFn Tryz.prog Tryz.f90 = some (26, ir90, [.tmp 2]) := by kernel_rfl
theorem spec_l01Shape (p n' : Int) (u m : Nat → Int) (K : Nat → SV) (H : Hp) (n : Nat) (h0 : K 0 = .int .i64 p) (h1 : K 1 = .int .i64 n')
    (hU : ∀ q, q < 8 → K (2 + q) = .int .u8 (u q)) (hK : ∀ q, q < 512 → K (10 + q) = .int .u8 (m q)) (hu : isBy 8 u) (hm : isBy 512 m) :
    FnS Tryz.prog 90 [.arr 522 K] H n (fun v H' _ => v = bl (tb (shp p n' u m)) ∧ H' = H) := by
  refine FnS.of_body Tryz.func90 tr90 (by simp) (fun hf => ?_)
  dsimp only [argEnv]
  unfold ir90
  (repeat first|refine zG ?_|(refine LS.nilO ?_;intro nq hnq hltq;try refine zU ?_)|(refine MS.new ?_;intro bq hbq hbqf;try refine zU ?_)|(refine MS.nil ?_;intro nq hnq hltq;have hlq:=hltq _ _ (Hp.get_eq _ _ _);clear hltq;try refine zU ?_)|(refine LS.nilQ ?_;try with_reducible intro nq hnq;try refine zU ?_))
  refine RS.call rfl ((spec_l01Sizes _ _ _ _).mono ?_)
  rintro r H' n2 hn2 ⟨rfl, rfl⟩
  (repeat first|refine zG ?_|(refine LS.nilO ?_;intro nq hnq hltq;try refine zU ?_)|(refine MS.new ?_;intro bq hbq hbqf;try refine zU ?_)|(refine MS.nil ?_;intro nq hnq hltq;have hlq:=hltq _ _ (Hp.get_eq _ _ _);clear hltq;try refine zU ?_)|(refine LS.nilQ ?_;try with_reducible intro nq hnq;try refine zU ?_))
  refine RS.sp (t := 8) rfl (fun h2 => ?_) (fun h2 => ?_) <;> (try simp only [tb_eq, tb_eqF, decide_eq_true_eq, decide_eq_false_iff_not, beq_iff_eq, bne_iff_ne, ne_eq, Decidable.not_not, beq_eq_false_iff_ne, bne_eq_false_iff_eq, Bool.not_eq_true', Bool.not_eq_false', Bool.not_eq_eq_eq_not, Bool.not_true, Bool.not_false] at h2)
  · (repeat first|refine zG ?_|(refine LS.nilO ?_;intro nq hnq hltq;try refine zU ?_)|(refine MS.new ?_;intro bq hbq hbqf;try refine zU ?_)|(refine MS.nil ?_;intro nq hnq hltq;have hlq:=hltq _ _ (Hp.get_eq _ _ _);clear hltq;try refine zU ?_)|(refine LS.nilQ ?_;try with_reducible intro nq hnq;try refine zU ?_))
    refine RS.call rfl ((spec_l01Vector p n' u _ _ hu).mono ?_)
    rintro r H' n3 hn3 ⟨rfl, rfl⟩
    (repeat first|refine zG ?_|(refine LS.nilO ?_;intro nq hnq hltq;try refine zU ?_)|(refine MS.new ?_;intro bq hbq hbqf;try refine zU ?_)|(refine MS.nil ?_;intro nq hnq hltq;have hlq:=hltq _ _ (Hp.get_eq _ _ _);clear hltq;try refine zU ?_)|(refine LS.nilQ ?_;try with_reducible intro nq hnq;try refine zU ?_))
    refine RS.sp (t := 17) rfl (fun h3 => ?_) (fun h3 => ?_) <;> (try simp only [tb_eq, tb_eqF, decide_eq_true_eq, decide_eq_false_iff_not, beq_iff_eq, bne_iff_ne, ne_eq, Decidable.not_not, beq_eq_false_iff_ne, bne_eq_false_iff_eq, Bool.not_eq_true', Bool.not_eq_false', Bool.not_eq_eq_eq_not, Bool.not_true, Bool.not_false] at h3)
    · (repeat first|refine zG ?_|(refine LS.nilO ?_;intro nq hnq hltq;try refine zU ?_)|(refine MS.new ?_;intro bq hbq hbqf;try refine zU ?_)|(refine MS.nil ?_;intro nq hnq hltq;have hlq:=hltq _ _ (Hp.get_eq _ _ _);clear hltq;try refine zU ?_)|(refine LS.nilQ ?_;try with_reducible intro nq hnq;try refine zU ?_))
      refine RS.call rfl ((spec_l01Table p n' m _ _ hm).mono ?_)
      rintro r H' n4 hn4 ⟨rfl, rfl⟩
      (repeat first|refine zG ?_|(refine LS.nilO ?_;intro nq hnq hltq;try refine zU ?_)|(refine MS.new ?_;intro bq hbq hbqf;try refine zU ?_)|(refine MS.nil ?_;intro nq hnq hltq;have hlq:=hltq _ _ (Hp.get_eq _ _ _);clear hltq;try refine zU ?_)|(refine LS.nilQ ?_;try with_reducible intro nq hnq;try refine zU ?_))
      exact ⟨_, H, rfl, by exact zD, congrArg bl (tb_iff ⟨fun h => ⟨h2, h3, h⟩, fun h => h.2.2⟩), rfl⟩
    · (repeat first|refine zG ?_|(refine LS.nilO ?_;intro nq hnq hltq;try refine zU ?_)|(refine MS.new ?_;intro bq hbq hbqf;try refine zU ?_)|(refine MS.nil ?_;intro nq hnq hltq;have hlq:=hltq _ _ (Hp.get_eq _ _ _);clear hltq;try refine zU ?_)|(refine LS.nilQ ?_;try with_reducible intro nq hnq;try refine zU ?_))
      exact ⟨_, H, rfl, by exact zD, by rw [tb_false (fun h => h3 h.2.1)], rfl⟩
  · (repeat first|refine zG ?_|(refine LS.nilO ?_;intro nq hnq hltq;try refine zU ?_)|(refine MS.new ?_;intro bq hbq hbqf;try refine zU ?_)|(refine MS.nil ?_;intro nq hnq hltq;have hlq:=hltq _ _ (Hp.get_eq _ _ _);clear hltq;try refine zU ?_)|(refine LS.nilQ ?_;try with_reducible intro nq hnq;try refine zU ?_))
    exact ⟨_, H, rfl, by exact zD, by rw [tb_false (fun h => h2 h.1)], rfl⟩
/-- (*impl.Hopf).folded$1 -/
def ir141 : Cd := (.seq (.reg [⟨some 10,none,.ld none (.t 3)⟩]) (.cond (.t 10) (.drwo true [12] [0,1,2,3,4,5,6,7,8,9,10,11,12] [⟨some 11,none,.ld (some 2) (.t 4)⟩,⟨some 12,none,.mov (.t 2)⟩,⟨some 13,none,.ld none (.t 6)⟩,⟨some 14,none,.ld none (.t 6)⟩,⟨some 15,none,.mov (.t 0)⟩,⟨some 16,none,.ck (.t 14)⟩,⟨some 17,none,.fa 1042 (.t 16)⟩,⟨some 18,none,.ia 8 8 (.t 17) (.t 15)⟩,⟨some 19,none,.ld (some 8) (.t 18)⟩,⟨some 20,none,.mov (.t 1)⟩,⟨some 21,none,.call 34 [(.t 20)]⟩,⟨some 22,none,.call 32 [(.t 13),(.t 19),(.t 21)]⟩,⟨some 23,none,.call 50 [(.t 11),(.t 5),(.t 12),(.t 22)]⟩]) (.drwo true [12] [0,1,2,3,5,6,7,8,9,10,4,11,12] [⟨some 24,none,.ld (some 2) (.t 4)⟩,⟨some 25,none,.mov (.t 2)⟩,⟨some 26,none,.ld none (.t 6)⟩,⟨some 27,none,.mov (.t 0)⟩,⟨some 28,none,.call 34 [(.t 27)]⟩,⟨some 29,none,.ld none (.t 6)⟩,⟨some 30,none,.mov (.t 1)⟩,⟨some 31,none,.ck (.t 29)⟩,⟨some 32,none,.fa 1042 (.t 31)⟩,⟨some 33,none,.ia 8 8 (.t 32) (.t 30)⟩,⟨some 34,none,.ld (some 8) (.t 33)⟩,⟨some 35,none,.call 32 [(.t 26),(.t 28),(.t 34)]⟩,⟨some 36,none,.call 50 [(.t 24),(.t 5),(.t 25),(.t 35)]⟩])))
set_option maxRecDepth 100000 in
theorem tr141 : trFn Tryz.prog Tryz.f141 = some (37, ir141, []) := by kernel_rfl
theorem Hopf_folded_1 (h : HT) (a : Nat) (i t j k : Nat) (fp : Bool) (g : Nat → Nat → Int) (hg : g = if fp = true then g6 h.p h.m h.s a else g7 h.p h.m h.s a) (hi : i < 8) (ht : t = 8 * j + k) (hj : j < 8) (hk : k < 8)
    (b bq bf bo bh : Nat) (K Kq Kh : Blk) (H : Hp) (n : Nat) (hS : HS h a) (hb : H.get b = some K) (hsz : K.size = 1106) (hK : h.At K.c) (hB : h.By)
    (gq : H.get bq = some Kq) (sq : Kq.size = 1) (cq : Kq.c 0 = .bool fp) (gf : H.get bf = some ⟨2, fldC h.p a, 85⟩)
    (go : H.get bo = some ⟨8, bys (fold h.p h.c i g t), 27⟩) (gh : H.get bh = some Kh) (sh : Kh.size = 1) (ch : Kh.c 0 = .ptr b 0) :
    FnS Tryz.prog 141 [i64 j, i64 k, i64 (h.c (64 * i + t)), ptr bq 0, ptr bf 0, ptr bo 0, ptr bh 0] H n (fun _ H' _ => H' = H.set bo (bys (fold h.p h.c i g (t + 1)))) := by
  have hp := hS.hp
  have ha := hS.ha
  have hk5 := hK.s
  have hct := hB.c (64 * i + t) (by omega)
  refine FnS.of_body Tryz.func141 tr141 (by simp) (fun hf => ?_)
  dsimp only [argEnv]
  unfold ir141
  have hbn := getlt hf hb
  cases fp
  · have hg7 : g = g7 h.p h.m h.s a := by rw [hg]; rfl
    (repeat first|refine zG ?_|(refine LS.nilO ?_;intro nq hnq hltq;try refine zU ?_)|(refine MS.new ?_;intro bq hbq hbqf;try refine zU ?_)|(refine MS.nil ?_;intro nq hnq hltq;have hlq:=hltq _ _ (Hp.get_eq _ _ _);clear hltq;try refine zU ?_)|(refine LS.nilQ ?_;try with_reducible intro nq hnq;try refine zU ?_))
    refine CS.tailLo _ (List.Mem.head _) ?_; dsimp only [List.take, List.drop]
    (repeat first|refine zG ?_|(refine LS.nilO ?_;intro nq hnq hltq;try refine zU ?_)|(refine MS.new ?_;intro bq hbq hbqf;try refine zU ?_)|(refine MS.nil ?_;intro nq hnq hltq;have hlq:=hltq _ _ (Hp.get_eq _ _ _);clear hltq;try refine zU ?_)|(refine LS.nilQ ?_;try with_reducible intro nq hnq;try refine zU ?_))
    refine LS.callQ (.arr 8 (bys (bas j))) rfl (fun n' hn' => impl_basis j _ _ (by omega)) ?_
    (repeat first|refine zG ?_|(refine LS.nilO ?_;intro nq hnq hltq;try refine zU ?_)|(refine MS.new ?_;intro bq hbq hbqf;try refine zU ?_)|(refine MS.nil ?_;intro nq hnq hltq;have hlq:=hltq _ _ (Hp.get_eq _ _ _);clear hltq;try refine zU ?_)|(refine LS.nilQ ?_;try with_reducible intro nq hnq;try refine zU ?_))
    refine LS.callQ (.arr 8 (bys (g t))) rfl (fun n' hn' => by
      rw [hg7]; unfold g7; rw [ht, show (8 * j + k) / 8 = j by omega, show (8 * j + k) % 8 = k by omega]
      exact Hopf_product h a (bas j) (fun y => h.s (8 * k + y)) b K _ _ hS (by exact zH) hsz hK hB (bas_by _ _) (hB.rows (by omega))) ?_
    (repeat first|refine zG ?_|(refine LS.nilO ?_;intro nq hnq hltq;try refine zU ?_)|(refine MS.new ?_;intro bq hbq hbqf;try refine zU ?_)|(refine MS.nil ?_;intro nq hnq hltq;have hlq:=hltq _ _ (Hp.get_eq _ _ _);clear hltq;try refine zU ?_)|(refine LS.nilQ ?_;try with_reducible intro nq hnq;try refine zU ?_))
    refine RS.call rfl ((field_plus h.p a (h.c (64 * i + t)) (fold h.p h.c i g t) (g t) bo 0 _ _ _ hp (by exact zH) (by simp) (fun _ _ => by rw [Nat.zero_add]; rfl) (fold_res hp.1 _ _ _ _ _) (by rw [hg7]; exact (g7_res hp.1 _ _ _ _ _).by hp.2) (by omega)).mono ?_)
    rintro r H' n5 hn5 ⟨rfl, rfl⟩
    (repeat first|refine zG ?_|(refine LS.nilO ?_;intro nq hnq hltq;try refine zU ?_)|(refine MS.new ?_;intro bq hbq hbqf;try refine zU ?_)|(refine MS.nil ?_;intro nq hnq hltq;have hlq:=hltq _ _ (Hp.get_eq _ _ _);clear hltq;try refine zU ?_)|(refine LS.nilQ ?_;try with_reducible intro nq hnq;try refine zU ?_))
    exact ⟨_, H.set bo (bys (fold h.p h.c i g (t + 1))), rfl, Drops.setc go (fun q hq => (splice_all _ _ 8 q hq).trans (by rw [fold_step])), rfl⟩
  · have hg6 : g = g6 h.p h.m h.s a := by rw [hg]; rfl
    (repeat first|refine zG ?_|(refine LS.nilO ?_;intro nq hnq hltq;try refine zU ?_)|(refine MS.new ?_;intro bq hbq hbqf;try refine zU ?_)|(refine MS.nil ?_;intro nq hnq hltq;have hlq:=hltq _ _ (Hp.get_eq _ _ _);clear hltq;try refine zU ?_)|(refine LS.nilQ ?_;try with_reducible intro nq hnq;try refine zU ?_))
    refine CS.tailLo _ (List.Mem.head _) ?_; dsimp only [List.take, List.drop]
    (repeat first|refine zG ?_|(refine LS.nilO ?_;intro nq hnq hltq;try refine zU ?_)|(refine MS.new ?_;intro bq hbq hbqf;try refine zU ?_)|(refine MS.nil ?_;intro nq hnq hltq;have hlq:=hltq _ _ (Hp.get_eq _ _ _);clear hltq;try refine zU ?_)|(refine LS.nilQ ?_;try with_reducible intro nq hnq;try refine zU ?_))
    refine LS.callQ (.arr 8 (bys (bas k))) rfl (fun n' hn' => impl_basis k _ _ (by omega)) ?_
    (repeat first|refine zG ?_|(refine LS.nilO ?_;intro nq hnq hltq;try refine zU ?_)|(refine MS.new ?_;intro bq hbq hbqf;try refine zU ?_)|(refine MS.nil ?_;intro nq hnq hltq;have hlq:=hltq _ _ (Hp.get_eq _ _ _);clear hltq;try refine zU ?_)|(refine LS.nilQ ?_;try with_reducible intro nq hnq;try refine zU ?_))
    refine LS.callQ (.arr 8 (bys (g t))) rfl (fun n' hn' => by
      rw [hg6]; unfold g6; rw [ht, show (8 * j + k) / 8 = j by omega, show (8 * j + k) % 8 = k by omega]
      exact Hopf_product h a (fun y => h.s (8 * j + y)) (bas k) b K _ _ hS (by exact zH) hsz hK hB (hB.rows (by omega)) (bas_by _ _)) ?_
    (repeat first|refine zG ?_|(refine LS.nilO ?_;intro nq hnq hltq;try refine zU ?_)|(refine MS.new ?_;intro bq hbq hbqf;try refine zU ?_)|(refine MS.nil ?_;intro nq hnq hltq;have hlq:=hltq _ _ (Hp.get_eq _ _ _);clear hltq;try refine zU ?_)|(refine LS.nilQ ?_;try with_reducible intro nq hnq;try refine zU ?_))
    refine RS.call rfl ((field_plus h.p a (h.c (64 * i + t)) (fold h.p h.c i g t) (g t) bo 0 _ _ _ hp (by exact zH) (by simp) (fun _ _ => by rw [Nat.zero_add]; rfl) (fold_res hp.1 _ _ _ _ _) (by rw [hg6]; exact (g6_res hp.1 _ _ _ _ _).by hp.2) (by omega)).mono ?_)
    rintro r H' n5 hn5 ⟨rfl, rfl⟩
    (repeat first|refine zG ?_|(refine LS.nilO ?_;intro nq hnq hltq;try refine zU ?_)|(refine MS.new ?_;intro bq hbq hbqf;try refine zU ?_)|(refine MS.nil ?_;intro nq hnq hltq;have hlq:=hltq _ _ (Hp.get_eq _ _ _);clear hltq;try refine zU ?_)|(refine LS.nilQ ?_;try with_reducible intro nq hnq;try refine zU ?_))
    exact ⟨_, H.set bo (bys (fold h.p h.c i g (t + 1))), rfl, Drops.setc go (fun q hq => (splice_all _ _ 8 q hq).trans (by rw [fold_step])), rfl⟩
/-- spec.l04Pairs -/
def ir37 : Cd := (.seq (.reg [⟨some 3,none,.box 61 (.t 0)⟩,⟨some 4,none,.box 29 (.t 1)⟩,⟨some 5,none,.box 29 (.t 2)⟩,⟨some 6,none,.new 29 [(64,(.int .u8 0))]⟩]) (.seq (.mix [⟨some 16,none,.build 64 [(64,(.int .u8 0))] []⟩,⟨some 17,none,.fa 1 (.t 3)⟩,⟨some 18,none,.ld none (.t 17)⟩] [⟨some 7,none,.new 29 [(64,(.int .u8 0))]⟩,⟨none,none,.st 64 (.t 7) (.t 16)⟩,⟨some 8,none,.mov (.t 18)⟩]) (.seq (.seq (.reg [⟨some 9,none,.mov (.c (.int .i64 0))⟩]) (.block 0 (.loop (.seq (.seq (.reg [⟨some 19,none,.mov (.t 9)⟩,⟨some 20,none,.mov (.t 8)⟩,⟨some 21,none,.bin .lss (.t 19) (.t 20)⟩]) (.cond (.t 21) .skip (.exit 0))) (.seq (.block 1 (.seq (.reg [⟨some 10,none,.mov (.c (.int .i64 0))⟩]) (.block 2 (.loop (.seq (.seq (.reg [⟨some 24,none,.mov (.t 10)⟩,⟨some 25,none,.mov (.t 8)⟩,⟨some 26,none,.bin .lss (.t 24) (.t 25)⟩]) (.cond (.t 26) .skip (.exit 2))) (.seq (.block 3 (.seq (.reg [⟨some 11,none,.mov (.c (.int .i64 0))⟩]) (.block 4 (.loop (.seq (.seq (.reg [⟨some 29,none,.mov (.t 11)⟩,⟨some 30,none,.mov (.t 8)⟩,⟨some 31,none,.bin .lss (.t 29) (.t 30)⟩,⟨some 32,none,.mov (.t 31)⟩,⟨some 33,(some (32,true)),.mov (.t 9)⟩,⟨some 34,(some (32,true)),.mov (.t 10)⟩,⟨some 35,(some (32,true)),.ia 8 8 (.t 4) (.t 33)⟩,⟨some 36,(some (32,true)),.ia 8 1 (.t 35) (.t 34)⟩,⟨some 37,(some (32,true)),.ld none (.t 36)⟩,⟨some 38,(some (32,true)),.bin .neq (.t 37) (.c (.int .u8 0))⟩,⟨some 39,none,.pick (.t 32) (.t 38) (.c (.bool false))⟩]) (.cond (.t 39) .skip (.exit 4))) (.seq (.block 5 (.seq (.reg [⟨some 12,none,.mov (.c (.int .i64 0))⟩]) (.block 6 (.loop (.seq (.seq (.reg [⟨some 42,none,.mov (.t 12)⟩,⟨some 43,none,.mov (.t 8)⟩,⟨some 44,none,.bin .lss (.t 42) (.t 43)⟩]) (.cond (.t 44) .skip (.exit 6))) (.seq (.block 7 (.seq (.seq (.reg [⟨some 47,none,.mov (.t 11)⟩,⟨some 48,none,.mov (.t 12)⟩,⟨some 49,none,.ia 8 8 (.t 5) (.t 47)⟩,⟨some 50,none,.ia 8 1 (.t 49) (.t 48)⟩,⟨some 51,none,.ld none (.t 50)⟩,⟨some 52,none,.bin .eql (.t 51) (.c (.int .u8 0))⟩]) (.cond (.t 52) (.exit 7) .skip)) (.seq (.mix [⟨some 53,none,.fa 0 (.t 3)⟩,⟨some 54,none,.ld none (.t 53)⟩,⟨some 55,none,.mov (.t 9)⟩,⟨some 56,none,.mov (.t 11)⟩,⟨some 57,none,.fa 10 (.t 3)⟩,⟨some 58,none,.ia 8 64 (.t 57) (.t 55)⟩,⟨some 59,none,.ia 8 8 (.t 58) (.t 56)⟩,⟨some 60,none,.ld (some 8) (.t 59)⟩,⟨some 61,none,.mov (.t 10)⟩,⟨some 62,none,.mov (.t 12)⟩,⟨some 63,none,.fa 10 (.t 3)⟩,⟨some 64,none,.ia 8 64 (.t 63) (.t 61)⟩,⟨some 65,none,.ia 8 8 (.t 64) (.t 62)⟩,⟨some 66,none,.ld (some 8) (.t 65)⟩,⟨some 67,none,.call 57 [(.t 54),(.t 60),(.t 66)]⟩] [⟨some 13,none,.new 29 [(64,(.int .u8 0))]⟩,⟨none,none,.st 64 (.t 13) (.t 67)⟩]) (.seq (.drw true [] [⟨some 68,none,.mov (.t 9)⟩,⟨some 69,none,.mov (.t 10)⟩,⟨some 70,none,.ia 8 8 (.t 4) (.t 68)⟩,⟨some 71,none,.ia 8 1 (.t 70) (.t 69)⟩,⟨some 72,none,.ld none (.t 71)⟩,⟨some 73,none,.cv .i64 (.t 72)⟩,⟨some 74,none,.mov (.t 11)⟩,⟨some 75,none,.mov (.t 12)⟩,⟨some 76,none,.ia 8 8 (.t 5) (.t 74)⟩,⟨some 77,none,.ia 8 1 (.t 76) (.t 75)⟩,⟨some 78,none,.ld none (.t 77)⟩,⟨some 79,none,.cv .i64 (.t 78)⟩,⟨some 80,none,.bin .mul (.t 73) (.t 79)⟩,⟨some 14,none,.mov (.t 80)⟩]) (.seq (.reg [⟨some 15,none,.mov (.c (.int .i64 0))⟩]) (.block 8 (.loop (.seq (.seq (.reg [⟨some 81,none,.mov (.t 15)⟩,⟨some 82,none,.mov (.t 8)⟩,⟨some 83,none,.bin .lss (.t 81) (.t 82)⟩]) (.cond (.t 83) .skip (.exit 8))) (.seq (.block 9 (.drw true [12] [⟨some 86,none,.mov (.t 15)⟩,⟨some 87,none,.fa 0 (.t 3)⟩,⟨some 88,none,.ld none (.t 87)⟩,⟨some 89,none,.mov (.t 15)⟩,⟨some 90,none,.ia 8 8 (.t 7) (.t 89)⟩,⟨some 91,none,.ld (some 8) (.t 90)⟩,⟨some 92,none,.mov (.t 15)⟩,⟨some 93,none,.ia 8 8 (.t 13) (.t 92)⟩,⟨some 94,none,.ld (some 8) (.t 93)⟩,⟨some 95,none,.mov (.t 14)⟩,⟨some 96,none,.call 47 [(.t 88),(.t 91),(.t 94),(.t 95)]⟩,⟨some 97,none,.ia 8 8 (.t 7) (.t 86)⟩,⟨none,none,.st 8 (.t 97) (.t 96)⟩])) (.reg [⟨some 84,none,.mov (.t 15)⟩,⟨some 85,none,.bin .add (.t 84) (.c (.int .i64 1))⟩,⟨some 15,none,.mov (.t 85)⟩])))))))))) (.reg [⟨some 45,none,.mov (.t 12)⟩,⟨some 46,none,.bin .add (.t 45) (.c (.int .i64 1))⟩,⟨some 12,none,.mov (.t 46)⟩]))))))) (.reg [⟨some 40,none,.mov (.t 11)⟩,⟨some 41,none,.bin .add (.t 40) (.c (.int .i64 1))⟩,⟨some 11,none,.mov (.t 41)⟩]))))))) (.reg [⟨some 27,none,.mov (.t 10)⟩,⟨some 28,none,.bin .add (.t 27) (.c (.int .i64 1))⟩,⟨some 10,none,.mov (.t 28)⟩]))))))) (.reg [⟨some 22,none,.mov (.t 9)⟩,⟨some 23,none,.bin .add (.t 22) (.c (.int .i64 1))⟩,⟨some 9,none,.mov (.t 23)⟩])))))) (.seq (.reg [⟨some 98,none,.ld (some 64) (.t 7)⟩,⟨none,none,.st 64 (.t 6) (.t 98)⟩]) .ret))))
set_option maxRecDepth 100000 in
theorem tr37 : trFn Tryz.prog Tryz.f37 = some (99, ir37, [.cell (some 64) 6]) := by kernel_rfl
theorem spec_l04Pairs (h : HT) (a : Nat) (f g : Nat → Int) (K : Nat → SV) (H : Hp) (n : Nat) (hS : HS h a) (hK : h.At K) (hB : h.By) (hA : isBy 64 f) (hG : isBy 64 g) (zf : lz a f) (zg : lz a g) :
    FnS Tryz.prog 37 [.arr 522 K, .arr 64 (bys f), .arr 64 (bys g)] H n (fun r H' _ => r = .arr 64 (bys (ten h.p h.m f g)) ∧ H' = H) := by
  have hp := hS.hp
  have ha := hS.ha
  have hk0 := hK.p
  have hk1 := hK.n
  rw [hS.hn] at hk1
  have hk5 := hK.m
  refine FnS.of_body Tryz.func37 tr37 (by simp) (fun hf => ?_)
  dsimp only [argEnv]
  unfold ir37
  (repeat first|refine zG ?_|(refine LS.nilO ?_;intro nq hnq hltq;try refine zU ?_)|(refine MS.new ?_;intro bq hbq hbqf;try refine zU ?_)|(refine MS.nil ?_;intro nq hnq hltq;have hlq:=hltq _ _ (Hp.get_eq _ _ _);clear hltq;try refine zU ?_)|(refine LS.nilQ ?_;try with_reducible intro nq hnq;try refine zU ?_))
  revert bq
  intro b1 hb1 hb1f hl1
  refine CS.iter a (fun j => [(9, i64 j), (3, ptr n 0), (4, ptr (n + 1) 0), (5, ptr (n + 2) 0), (6, ptr (n + 3) 0), (7, ptr b1 0), (8, i64 a)])
    (fun j => (b1, ⟨64, bys (tns h.p h.m f g (8 * j) 0), 29⟩) :: (n + 3, ⟨64, bys (fun _ => 0), 29⟩) :: (n + 2, ⟨64, bys g, 29⟩) :: (n + 1, ⟨64, bys f, 29⟩) :: (n, ⟨522, K, 61⟩) :: H) (fun _ => True) (by (repeat first | exact trivial | refine And.intro rfl ?_))
    (Drops.keepc rfl rfl (fun _ _ => by rw [Nat.mul_zero, tns_zero]; rfl) (Drops.keepc rfl rfl (fun _ _ => rfl) (Drops.refl _ _))) trivial ?_
  intro j n3 hj hn _
  (repeat first|refine zG ?_|(refine LS.nilO ?_;intro nq hnq hltq;try refine zU ?_)|(refine MS.new ?_;intro bq hbq hbqf;try refine zU ?_)|(refine MS.nil ?_;intro nq hnq hltq;have hlq:=hltq _ _ (Hp.get_eq _ _ _);clear hltq;try refine zU ?_)|(refine LS.nilQ ?_;try with_reducible intro nq hnq;try refine zU ?_))
  refine zI ?_ ?_<;>intro h2
  · (repeat first|refine zG ?_|(refine LS.nilO ?_;intro nq hnq hltq;try refine zU ?_)|(refine MS.new ?_;intro bq hbq hbqf;try refine zU ?_)|(refine MS.nil ?_;intro nq hnq hltq;have hlq:=hltq _ _ (Hp.get_eq _ _ _);clear hltq;try refine zU ?_)|(refine LS.nilQ ?_;try with_reducible intro nq hnq;try refine zU ?_))
    refine CS.iter a (fun k => [(10, i64 k), (9, i64 j), (3, ptr n 0), (4, ptr (n + 1) 0), (5, ptr (n + 2) 0), (6, ptr (n + 3) 0), (7, ptr b1 0), (8, i64 a)])
      (fun k => (b1, ⟨64, bys (tns h.p h.m f g (8 * j + k) 0), 29⟩) :: (n + 3, ⟨64, bys (fun _ => 0), 29⟩) :: (n + 2, ⟨64, bys g, 29⟩) :: (n + 1, ⟨64, bys f, 29⟩) :: (n, ⟨522, K, 61⟩) :: H) (fun _ => True) (by (repeat first | exact trivial | refine And.intro rfl ?_)) (Drops.refl _ _) trivial ?_
    intro k n4 hk hn4 _
    (repeat first|refine zG ?_|(refine LS.nilO ?_;intro nq hnq hltq;try refine zU ?_)|(refine MS.new ?_;intro bq hbq hbqf;try refine zU ?_)|(refine MS.nil ?_;intro nq hnq hltq;have hlq:=hltq _ _ (Hp.get_eq _ _ _);clear hltq;try refine zU ?_)|(refine LS.nilQ ?_;try with_reducible intro nq hnq;try refine zU ?_))
    refine zI ?_ ?_<;>intro h3
    · have hft := hA (8 * j + k) (by omega)
      have hf1 : (bys f) (8 * j + k) = .int .u8 (f (8 * j + k)) := rfl
      (repeat first|refine zG ?_|(refine LS.nilO ?_;intro nq hnq hltq;try refine zU ?_)|(refine MS.new ?_;intro bq hbq hbqf;try refine zU ?_)|(refine MS.nil ?_;intro nq hnq hltq;have hlq:=hltq _ _ (Hp.get_eq _ _ _);clear hltq;try refine zU ?_)|(refine LS.nilQ ?_;try with_reducible intro nq hnq;try refine zU ?_))
      refine CS.iter a (fun l => [(11, i64 l), (10, i64 k), (9, i64 j), (3, ptr n 0), (4, ptr (n + 1) 0), (5, ptr (n + 2) 0), (6, ptr (n + 3) 0), (7, ptr b1 0), (8, i64 a)])
        (fun l => (b1, ⟨64, bys (tns h.p h.m f g (8 * j + k) (8 * l)), 29⟩) :: (n + 3, ⟨64, bys (fun _ => 0), 29⟩) :: (n + 2, ⟨64, bys g, 29⟩) :: (n + 1, ⟨64, bys f, 29⟩) :: (n, ⟨522, K, 61⟩) :: H) (fun _ => True) (by (repeat first | exact trivial | refine And.intro rfl ?_)) (Drops.refl _ _) trivial ?_
      intro l n5 hl hn5 _
      (repeat first|refine zG ?_|(refine LS.nilO ?_;intro nq hnq hltq;try refine zU ?_)|(refine MS.new ?_;intro bq hbq hbqf;try refine zU ?_)|(refine MS.nil ?_;intro nq hnq hltq;have hlq:=hltq _ _ (Hp.get_eq _ _ _);clear hltq;try refine zU ?_)|(refine LS.nilQ ?_;try with_reducible intro nq hnq;try refine zU ?_))
      by_cases h4 : l < a
      · rw [show decide ((l : Int) < a) = true by simpa using h4]
        (repeat first|refine zG ?_|(refine LS.nilO ?_;intro nq hnq hltq;try refine zU ?_)|(refine MS.new ?_;intro bq hbq hbqf;try refine zU ?_)|(refine MS.nil ?_;intro nq hnq hltq;have hlq:=hltq _ _ (Hp.get_eq _ _ _);clear hltq;try refine zU ?_)|(refine LS.nilQ ?_;try with_reducible intro nq hnq;try refine zU ?_))
        by_cases h5 : f (8 * j + k) = 0
        · rw [show (f (8 * j + k) != 0) = false by simpa using h5]
          (repeat first|refine zG ?_|(refine LS.nilO ?_;intro nq hnq hltq;try refine zU ?_)|(refine MS.new ?_;intro bq hbq hbqf;try refine zU ?_)|(refine MS.nil ?_;intro nq hnq hltq;have hlq:=hltq _ _ (Hp.get_eq _ _ _);clear hltq;try refine zU ?_)|(refine LS.nilQ ?_;try with_reducible intro nq hnq;try refine zU ?_))
          exact ⟨by omega, by (repeat first | exact trivial | refine And.intro rfl ?_), by rw [show 8 * j + (k + 1) = 8 * j + k + 1 from rfl, tns_off h5]; exact Drops.refl _ _, trivial⟩
        · rw [show (f (8 * j + k) != 0) = true by simpa using h5]
          (repeat first|refine zG ?_|(refine LS.nilO ?_;intro nq hnq hltq;try refine zU ?_)|(refine MS.new ?_;intro bq hbq hbqf;try refine zU ?_)|(refine MS.nil ?_;intro nq hnq hltq;have hlq:=hltq _ _ (Hp.get_eq _ _ _);clear hltq;try refine zU ?_)|(refine LS.nilQ ?_;try with_reducible intro nq hnq;try refine zU ?_))
          refine CS.iter a (fun i => [(12, i64 i), (11, i64 l), (10, i64 k), (9, i64 j), (3, ptr n 0), (4, ptr (n + 1) 0), (5, ptr (n + 2) 0), (6, ptr (n + 3) 0), (7, ptr b1 0), (8, i64 a)])
            (fun i => (b1, ⟨64, bys (tns h.p h.m f g (8 * j + k) (8 * l + i)), 29⟩) :: (n + 3, ⟨64, bys (fun _ => 0), 29⟩) :: (n + 2, ⟨64, bys g, 29⟩) :: (n + 1, ⟨64, bys f, 29⟩) :: (n, ⟨522, K, 61⟩) :: H) (fun _ => True) (by (repeat first | exact trivial | refine And.intro rfl ?_)) (Drops.refl _ _) trivial ?_
          intro i n6 hi hn6 _
          (repeat first|refine zG ?_|(refine LS.nilO ?_;intro nq hnq hltq;try refine zU ?_)|(refine MS.new ?_;intro bq hbq hbqf;try refine zU ?_)|(refine MS.nil ?_;intro nq hnq hltq;have hlq:=hltq _ _ (Hp.get_eq _ _ _);clear hltq;try refine zU ?_)|(refine LS.nilQ ?_;try with_reducible intro nq hnq;try refine zU ?_))
          refine zI ?_ ?_<;>intro h6
          · have hgt := hG (8 * l + i) (by omega)
            have hg1 : (bys g) (8 * l + i) = .int .u8 (g (8 * l + i)) := rfl
            (repeat first|refine zG ?_|(refine LS.nilO ?_;intro nq hnq hltq;try refine zU ?_)|(refine MS.new ?_;intro bq hbq hbqf;try refine zU ?_)|(refine MS.nil ?_;intro nq hnq hltq;have hlq:=hltq _ _ (Hp.get_eq _ _ _);clear hltq;try refine zU ?_)|(refine LS.nilQ ?_;try with_reducible intro nq hnq;try refine zU ?_))
            refine zI ?_ ?_<;>intro h7
            · (repeat first|refine zG ?_|(refine LS.nilO ?_;intro nq hnq hltq;try refine zU ?_)|(refine MS.new ?_;intro bq hbq hbqf;try refine zU ?_)|(refine MS.nil ?_;intro nq hnq hltq;have hlq:=hltq _ _ (Hp.get_eq _ _ _);clear hltq;try refine zU ?_)|(refine LS.nilQ ?_;try with_reducible intro nq hnq;try refine zU ?_))
              exact ⟨by omega, by (repeat first | exact trivial | refine And.intro rfl ?_), by rw [show 8 * l + (i + 1) = 8 * l + i + 1 from rfl, tns_same h7]; exact Drops.refl _ _, trivial⟩
            · (repeat first|refine zG ?_|(refine LS.nilO ?_;intro nq hnq hltq;try refine zU ?_)|(refine MS.new ?_;intro bq hbq hbqf;try refine zU ?_)|(refine MS.nil ?_;intro nq hnq hltq;have hlq:=hltq _ _ (Hp.get_eq _ _ _);clear hltq;try refine zU ?_)|(refine LS.nilQ ?_;try with_reducible intro nq hnq;try refine zU ?_))
              refine LS.callQ (.arr 64 (bys (outer h.p (fun y => h.m (64 * j + 8 * l + y)) (fun y => h.m (64 * k + 8 * i + y))))) rfl (fun n' hn' => spec_l02Outer h.p (fun y => h.m (64 * j + 8 * l + y)) (fun y => h.m (64 * k + 8 * i + y)) _ _ hp (fun y hy => hB.m _ (by omega)) (fun y hy => hB.m _ (by omega))) ?_
              (repeat first|refine zG ?_|(refine LS.nilO ?_;intro nq hnq hltq;try refine zU ?_)|(refine MS.new ?_;intro bq hbq hbqf;try refine zU ?_)|(refine MS.nil ?_;intro nq hnq hltq;have hlq:=hltq _ _ (Hp.get_eq _ _ _);clear hltq;try refine zU ?_)|(refine LS.nilQ ?_;try with_reducible intro nq hnq;try refine zU ?_))
              have hmul := mulB hft.1 hft.2 hgt.1 hgt.2
              (repeat first|refine zG ?_|(refine LS.nilO ?_;intro nq hnq hltq;try refine zU ?_)|(refine MS.new ?_;intro bq hbq hbqf;try refine zU ?_)|(refine MS.nil ?_;intro nq hnq hltq;have hlq:=hltq _ _ (Hp.get_eq _ _ _);clear hltq;try refine zU ?_)|(refine LS.nilQ ?_;try with_reducible intro nq hnq;try refine zU ?_))
              refine CS.iter a (fun x => [(15, i64 x), (14, i64 (f (8 * j + k) * g (8 * l + i))), (13, ptr bq 0), (12, i64 i), (11, i64 l), (10, i64 k), (9, i64 j), (3, ptr n 0), (4, ptr (n + 1) 0), (5, ptr (n + 2) 0), (6, ptr (n + 3) 0), (7, ptr b1 0), (8, i64 a)])
                (fun x => (bq, ⟨64, bys (outer h.p (fun y => h.m (64 * j + 8 * l + y)) (fun y => h.m (64 * k + 8 * i + y))), 29⟩) :: (b1, ⟨64, bys (rowsTo (tns h.p h.m f g (8 * j + k) (8 * l + i)) (tns h.p h.m f g (8 * j + k) (8 * l + i + 1)) x), 29⟩) :: (n + 3, ⟨64, bys (fun _ => 0), 29⟩) :: (n + 2, ⟨64, bys g, 29⟩) :: (n + 1, ⟨64, bys f, 29⟩) :: (n, ⟨522, K, 61⟩) :: H) (fun _ => True) (by (repeat first | exact trivial | refine And.intro rfl ?_))
                (Drops.keepc rfl rfl (fun _ _ => rfl) (Drops.keepc rfl rfl (fun _ _ => by rw [rowsTo_zero]) (Drops.refl _ _))) trivial ?_
              intro x n7 hx hn7 _
              (repeat first|refine zG ?_|(refine LS.nilO ?_;intro nq hnq hltq;try refine zU ?_)|(refine MS.new ?_;intro bq hbq hbqf;try refine zU ?_)|(refine MS.nil ?_;intro nq hnq hltq;have hlq:=hltq _ _ (Hp.get_eq _ _ _);clear hltq;try refine zU ?_)|(refine LS.nilQ ?_;try with_reducible intro nq hnq;try refine zU ?_))
              refine zI ?_ ?_<;>intro h8
              · have hrow := fun y hy => tns_row4 h.p h.m f g (8 * j + k) (8 * l + i) x y hy
                simp only [show (8 * j + k) / 8 = j by omega, show (8 * j + k) % 8 = k by omega, show (8 * l + i) / 8 = l by omega, show (8 * l + i) % 8 = i by omega] at hrow
                have hr : ∀ q, q < 8 → (bys (rowsTo (tns h.p h.m f g (8 * j + k) (8 * l + i)) (tns h.p h.m f g (8 * j + k) (8 * l + i + 1)) x)) (8 * x + q) = .int .u8 (tns h.p h.m f g (8 * j + k) (8 * l + i) (8 * x + q)) := fun y hy => by simp only [bys, rowsTo]; rw [if_neg (by omega)]
                (repeat first|refine zG ?_|(refine LS.nilO ?_;intro nq hnq hltq;try refine zU ?_)|(refine MS.new ?_;intro bq hbq hbqf;try refine zU ?_)|(refine MS.nil ?_;intro nq hnq hltq;have hlq:=hltq _ _ (Hp.get_eq _ _ _);clear hltq;try refine zU ?_)|(refine LS.nilQ ?_;try with_reducible intro nq hnq;try refine zU ?_))
                refine LS.callQ (.arr 8 (bys (pl h.p (fun y => tns h.p h.m f g (8 * j + k) (8 * l + i) (8 * x + y)) (f (8 * j + k) * g (8 * l + i)) (fun y => outer h.p (fun y => h.m (64 * j + 8 * l + y)) (fun y => h.m (64 * k + 8 * i + y)) (8 * x + y))))) rfl (fun n' hn' => spec_l01Add h.p (f (8 * j + k) * g (8 * l + i)) (fun y => tns h.p h.m f g (8 * j + k) (8 * l + i) (8 * x + y)) (fun y => outer h.p (fun y => h.m (64 * j + 8 * l + y)) (fun y => h.m (64 * k + 8 * i + y)) (8 * x + y)) _ _ hp (fun y hy => (tns_res hp.1 h.m f g (8 * j + k) (8 * l + i) 64).by hp.2 _ (by omega)) (fun y hy => (outer_res hp.1 _ _ 64).by hp.2 _ (by omega)) (by omega)) ?_
                (repeat first|refine zG ?_|(refine LS.nilO ?_;intro nq hnq hltq;try refine zU ?_)|(refine MS.new ?_;intro bq hbq hbqf;try refine zU ?_)|(refine MS.nil ?_;intro nq hnq hltq;have hlq:=hltq _ _ (Hp.get_eq _ _ _);clear hltq;try refine zU ?_)|(refine LS.nilQ ?_;try with_reducible intro nq hnq;try refine zU ?_))
                exact ⟨by omega, by (repeat first | exact trivial | refine And.intro rfl ?_), Drops.keepc rfl rfl (fun _ _ => rfl) (Drops.keepc rfl rfl (fun q hq => rowsTo_step hrow q) (Drops.refl _ _)), trivial⟩
              · obtain rfl : x = a := by omega
                (repeat first|refine zG ?_|(refine LS.nilO ?_;intro nq hnq hltq;try refine zU ?_)|(refine MS.new ?_;intro bq hbq hbqf;try refine zU ?_)|(refine MS.nil ?_;intro nq hnq hltq;have hlq:=hltq _ _ (Hp.get_eq _ _ _);clear hltq;try refine zU ?_)|(refine LS.nilQ ?_;try with_reducible intro nq hnq;try refine zU ?_))
                exact ⟨by omega, by (repeat first | exact trivial | refine And.intro rfl ?_), Drops.drop (by omega) (by simp (disch := omega) only [Hp.get_ne]; exact hf _ (by omega)) (Drops.keepc rfl rfl (fun q hq => by simp only [bys]; rw [rowsTo_all (fun q h1 h2 => (tns_out hS.mm (by omega) (by omega) h1 h2).symm) hq]; rfl) (Drops.refl _ _)), trivial⟩
          · obtain rfl : i = a := by omega
            (repeat first|refine zG ?_|(refine LS.nilO ?_;intro nq hnq hltq;try refine zU ?_)|(refine MS.new ?_;intro bq hbq hbqf;try refine zU ?_)|(refine MS.nil ?_;intro nq hnq hltq;have hlq:=hltq _ _ (Hp.get_eq _ _ _);clear hltq;try refine zU ?_)|(refine LS.nilQ ?_;try with_reducible intro nq hnq;try refine zU ?_))
            exact ⟨by omega, by (repeat first | exact trivial | refine And.intro rfl ?_), by rw [← tns_moreS (show 8 * l + i ≤ 8 * (l + 1) by omega) (fun u u1 u2 => zg.flat (by omega) (by omega))]; exact Drops.refl _ _, trivial⟩
      · obtain rfl : l = a := by omega
        rw [show decide ((l : Int) < l) = false by simp]
        (repeat first|refine zG ?_|(refine LS.nilO ?_;intro nq hnq hltq;try refine zU ?_)|(refine MS.new ?_;intro bq hbq hbqf;try refine zU ?_)|(refine MS.nil ?_;intro nq hnq hltq;have hlq:=hltq _ _ (Hp.get_eq _ _ _);clear hltq;try refine zU ?_)|(refine LS.nilQ ?_;try with_reducible intro nq hnq;try refine zU ?_))
        exact ⟨by omega, by (repeat first | exact trivial | refine And.intro rfl ?_), by rw [← tns_moreS (show 8 * l ≤ 64 by omega) (fun u u1 u2 => zg.flat (by omega) (by omega)), tns_next]; exact Drops.refl _ _, trivial⟩
    · obtain rfl : k = a := by omega
      (repeat first|refine zG ?_|(refine LS.nilO ?_;intro nq hnq hltq;try refine zU ?_)|(refine MS.new ?_;intro bq hbq hbqf;try refine zU ?_)|(refine MS.nil ?_;intro nq hnq hltq;have hlq:=hltq _ _ (Hp.get_eq _ _ _);clear hltq;try refine zU ?_)|(refine LS.nilQ ?_;try with_reducible intro nq hnq;try refine zU ?_))
      exact ⟨by omega, by (repeat first | exact trivial | refine And.intro rfl ?_), by rw [← tns_moreT (show 8 * j + k ≤ 8 * (j + 1) by omega) (fun u u1 u2 => zf.flat (by omega) (by omega))]; exact Drops.refl _ _, trivial⟩
  · obtain rfl : j = a := by omega
    (repeat first|refine zG ?_|(refine LS.nilO ?_;intro nq hnq hltq;try refine zU ?_)|(refine MS.new ?_;intro bq hbq hbqf;try refine zU ?_)|(refine MS.nil ?_;intro nq hnq hltq;have hlq:=hltq _ _ (Hp.get_eq _ _ _);clear hltq;try refine zU ?_)|(refine LS.nilQ ?_;try with_reducible intro nq hnq;try refine zU ?_))
    exact ⟨.arr 64 (bys (ten h.p h.m f g)), H, conc_arr (fun q hq => by simp only [Nat.zero_add, bys]; rw [← tns_moreT (show 8 * j ≤ 64 by omega) (fun u u1 u2 => zf.flat (by omega) (by omega))]; rfl), by exact zD, rfl, rfl⟩
/-- laws.eqCoalgebra -/
def ir19 : Cd := (.seq (.reg [⟨some 2,none,.box 46 (.t 0)⟩,⟨some 3,none,.box 46 (.t 1)⟩,⟨some 4,none,.mov (.c (.bool false))⟩]) (.seq (.seq (.reg [⟨some 5,none,.fa 0 (.t 2)⟩,⟨some 6,none,.ld none (.t 5)⟩,⟨some 7,none,.fa 0 (.t 3)⟩,⟨some 8,none,.ld none (.t 7)⟩,⟨some 9,none,.bin .neq (.t 6) (.t 8)⟩]) (.cond (.t 9) (.seq (.reg [⟨some 4,none,.mov (.c (.bool false))⟩]) .ret) .skip)) (.seq (.seq (.reg [⟨some 10,none,.fa 1 (.t 2)⟩,⟨some 11,none,.ld none (.t 10)⟩,⟨some 12,none,.fa 1 (.t 3)⟩,⟨some 13,none,.ld none (.t 12)⟩,⟨some 14,none,.bin .neq (.t 11) (.t 13)⟩]) (.cond (.t 14) (.seq (.reg [⟨some 4,none,.mov (.c (.bool false))⟩]) .ret) .skip)) (.seq (.seq (.reg [⟨some 15,none,.fa 2 (.t 2)⟩,⟨some 16,none,.ld (some 8) (.t 15)⟩,⟨some 17,none,.fa 2 (.t 3)⟩,⟨some 18,none,.ld (some 8) (.t 17)⟩,⟨some 19,none,.call 14 [(.t 16),(.t 18)]⟩,⟨some 20,none,.un .not (.t 19)⟩]) (.cond (.t 20) (.seq (.reg [⟨some 4,none,.mov (.c (.bool false))⟩]) .ret) .skip)) (.seq (.seq (.reg [⟨some 21,none,.fa 10 (.t 2)⟩,⟨some 22,none,.ld (some 512) (.t 21)⟩,⟨some 23,none,.fa 10 (.t 3)⟩,⟨some 24,none,.ld (some 512) (.t 23)⟩,⟨some 25,none,.call 43 [(.t 22),(.t 24)]⟩,⟨some 26,none,.un .not (.t 25)⟩]) (.cond (.t 26) (.seq (.reg [⟨some 4,none,.mov (.c (.bool false))⟩]) .ret) .skip)) (.seq (.reg [⟨some 4,none,.mov (.c (.bool true))⟩]) .ret))))))
set_option maxRecDepth 100000 in
theorem tr19 : trFn Tryz.prog Tryz.f19 = some (27, ir19, [.tmp 4]) := by kernel_rfl
theorem laws_eqCoalgebra (p n' : Int) (u m : Nat → Int) (H : Hp) (n : Nat) :
    FnS Tryz.prog 19 [.arr 522 (algC p n' u m), .arr 522 (algC p n' u m)] H n (fun r H' _ => r = bl true ∧ H' = H) := by
  have a2 := algC_u p n' u m
  have a3 := algC_m p n' u m
  have a0 : algC p n' u m 0 = .int .i64 p := rfl
  have a1 : algC p n' u m 1 = .int .i64 n' := rfl
  refine FnS.of_body Tryz.func19 tr19 (by simp) (fun hf => ?_)
  dsimp only [argEnv]
  unfold ir19
  (repeat first|refine zG ?_|(refine LS.nilO ?_;intro nq hnq hltq;try refine zU ?_)|(refine MS.new ?_;intro bq hbq hbqf;try refine zU ?_)|(refine MS.nil ?_;intro nq hnq hltq;have hlq:=hltq _ _ (Hp.get_eq _ _ _);clear hltq;try refine zU ?_)|(refine LS.nilQ ?_;try with_reducible intro nq hnq;try refine zU ?_))
  simp only [bne_self_eq_false]
  (repeat first|refine zG ?_|(refine LS.nilO ?_;intro nq hnq hltq;try refine zU ?_)|(refine MS.new ?_;intro bq hbq hbqf;try refine zU ?_)|(refine MS.nil ?_;intro nq hnq hltq;have hlq:=hltq _ _ (Hp.get_eq _ _ _);clear hltq;try refine zU ?_)|(refine LS.nilQ ?_;try with_reducible intro nq hnq;try refine zU ?_))
  simp only [bne_self_eq_false]
  (repeat first|refine zG ?_|(refine LS.nilO ?_;intro nq hnq hltq;try refine zU ?_)|(refine MS.new ?_;intro bq hbq hbqf;try refine zU ?_)|(refine MS.nil ?_;intro nq hnq hltq;have hlq:=hltq _ _ (Hp.get_eq _ _ _);clear hltq;try refine zU ?_)|(refine LS.nilQ ?_;try with_reducible intro nq hnq;try refine zU ?_))
  refine RS.call rfl ((laws_eqVector u u _ _).mono ?_)
  rintro r H' n2 hn2 ⟨rfl, rfl⟩
  rw [tb_true (fun _ _ => rfl)]
  (repeat first|refine zG ?_|(refine LS.nilO ?_;intro nq hnq hltq;try refine zU ?_)|(refine MS.new ?_;intro bq hbq hbqf;try refine zU ?_)|(refine MS.nil ?_;intro nq hnq hltq;have hlq:=hltq _ _ (Hp.get_eq _ _ _);clear hltq;try refine zU ?_)|(refine LS.nilQ ?_;try with_reducible intro nq hnq;try refine zU ?_))
  refine RS.call rfl ((laws_eqTable m m _ _).mono ?_)
  rintro r H' n3 hn3 ⟨rfl, rfl⟩
  rw [tb_true (fun _ _ => rfl)]
  (repeat first|refine zG ?_|(refine LS.nilO ?_;intro nq hnq hltq;try refine zU ?_)|(refine MS.new ?_;intro bq hbq hbqf;try refine zU ?_)|(refine MS.nil ?_;intro nq hnq hltq;have hlq:=hltq _ _ (Hp.get_eq _ _ _);clear hltq;try refine zU ?_)|(refine LS.nilQ ?_;try with_reducible intro nq hnq;try refine zU ?_))
  exact ⟨_, H, rfl, by exact zD, rfl, rfl⟩
end Go.Proofs.YtbknndbfbebkdabGreatR
