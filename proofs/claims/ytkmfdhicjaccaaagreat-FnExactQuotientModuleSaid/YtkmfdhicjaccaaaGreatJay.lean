/- Contracts of the program's functions. -/
import Derived.Test.YtkmfdhicjaccaaaGreatJam
import Derived.Test.YtkmfdhicjaccaaaGreatJal
import Derived.Test.YtkmfdhicjaccaaaGreatJau
import Derived.Test.YtkmfdhicjaccaaaGreatJaw
set_option linter.unusedSectionVars false
set_option linter.unusedVariables false
set_option linter.unusedSimpArgs false

namespace Go.Proofs.YtkmfdhicjaccaaaGreat

open Go.V

variable [BW]

set_option linter.unusedSimpArgs false

set_option linter.unusedVariables false

set_option maxHeartbeats 4000000

/-- spec.l01Shape -/
def ir135 : Cd := (.seq (.reg [⟨some 1,none,.box 87 (.t 0)⟩,⟨some 2,none,.mov (.c (.bool false))⟩]) (.seq (.reg [⟨some 3,none,.fa 0 (.t 1)⟩,⟨some 4,none,.ld none (.t 3)⟩,⟨some 5,none,.fa 1 (.t 1)⟩,⟨some 6,none,.ld none (.t 5)⟩,⟨some 7,none,.call 151 [(.t 4),(.t 6)]⟩,⟨some 8,none,.mov (.t 7)⟩,⟨some 9,(some (8,true)),.fa 0 (.t 1)⟩,⟨some 10,(some (8,true)),.ld none (.t 9)⟩,⟨some 11,(some (8,true)),.fa 1 (.t 1)⟩,⟨some 12,(some (8,true)),.ld none (.t 11)⟩,⟨some 13,(some (8,true)),.fa 2 (.t 1)⟩,⟨some 14,(some (8,true)),.ld (some 8) (.t 13)⟩,⟨some 15,(some (8,true)),.call 56 [(.t 10),(.t 12),(.t 14)]⟩,⟨some 16,none,.pick (.t 8) (.t 15) (.c (.bool false))⟩,⟨some 17,none,.mov (.t 16)⟩,⟨some 18,(some (17,true)),.fa 0 (.t 1)⟩,⟨some 19,(some (17,true)),.ld none (.t 18)⟩,⟨some 20,(some (17,true)),.fa 1 (.t 1)⟩,⟨some 21,(some (17,true)),.ld none (.t 20)⟩,⟨some 22,(some (17,true)),.fa 10 (.t 1)⟩,⟨some 23,(some (17,true)),.ld (some 512) (.t 22)⟩,⟨some 24,(some (17,true)),.call 136 [(.t 19),(.t 21),(.t 23)]⟩,⟨some 25,none,.pick (.t 17) (.t 24) (.c (.bool false))⟩,⟨some 2,none,.mov (.t 25)⟩]) .ret))

set_option maxRecDepth 100000 in
theorem tr135 : trFn Tryz.prog Tryz.f135 = some (26, ir135, [.tmp 2]) := by kernel_rfl

theorem spec_l01Shape (p n' : Int) (u m : Nat → Int) (K : Nat → SV) (H : Hp) (n : Nat) (h0 : K 0 = .int .i64 p) (h1 : K 1 = .int .i64 n')
    (hU : ∀ q, q < 8 → K (2 + q) = .int .u8 (u q)) (hK : ∀ q, q < 512 → K (10 + q) = .int .u8 (m q)) (hu : isBy 8 u) (hm : isBy 512 m) :
    FnS Tryz.prog 135 [.arr 522 K] H n (fun v H' _ => v = bl (tb (shp p n' u m)) ∧ H' = H) := by
  refine FnS.of_body Tryz.func135 tr135 (by simp) (fun hf => ?_)
  dsimp only [argEnv]
  unfold ir135
  (refine zG ?_)
  refine RS.call rfl ((spec_l01Sizes _ _ _ _).mono ?_)
  rintro r H' n2 hn2 ⟨rfl, rfl⟩
  (refine zG ?_)
  refine RS.sp (t := 8) rfl (fun h2 => ?_) (fun h2 => ?_) <;> (try simp only [tb_eq, tb_eqF, decide_eq_true_eq, decide_eq_false_iff_not, beq_iff_eq, bne_iff_ne, ne_eq, Decidable.not_not, beq_eq_false_iff_ne, bne_eq_false_iff_eq, Bool.not_eq_true', Bool.not_eq_false', Bool.not_eq_eq_eq_not, Bool.not_true, Bool.not_false] at h2)
  · (refine zG ?_)
    refine RS.call rfl ((spec_l01Vector p n' u _ _ hu).mono ?_)
    rintro r H' n3 hn3 ⟨rfl, rfl⟩
    (refine zG ?_)
    refine RS.sp (t := 17) rfl (fun h3 => ?_) (fun h3 => ?_) <;> (try simp only [tb_eq, tb_eqF, decide_eq_true_eq, decide_eq_false_iff_not, beq_iff_eq, bne_iff_ne, ne_eq, Decidable.not_not, beq_eq_false_iff_ne, bne_eq_false_iff_eq, Bool.not_eq_true', Bool.not_eq_false', Bool.not_eq_eq_eq_not, Bool.not_true, Bool.not_false] at h3)
    · (refine zG ?_)
      refine RS.call rfl ((spec_l01Table p n' m _ _ hm).mono ?_)
      rintro r H' n4 hn4 ⟨rfl, rfl⟩
      (refine zG ?_)
      exact ⟨_, H, rfl, by exact zD, congrArg bl (tb_iff ⟨fun h => ⟨h2, h3, h⟩, fun h => h.2.2⟩), rfl⟩
    · (refine zG ?_)
      exact ⟨_, H, rfl, by exact zD, by rw [tb_false (fun h => h3 h.2.1)], rfl⟩
  · (refine zG ?_)
    exact ⟨_, H, rfl, by exact zD, by rw [tb_false (fun h => h2 h.1)], rfl⟩

/-- (*impl.Hopf).tensor$1 -/
def ir164 : Cd := (.seq (.reg [⟨some 7,none,.box 3 (.t 0)⟩,⟨some 8,none,.box 3 (.t 1)⟩,⟨some 9,none,.box 3 (.t 2)⟩]) (.reg [⟨some 10,none,.ld none (.t 3)⟩,⟨some 11,none,.mkf 165 [] [(.t 4),(.t 7),(.t 5),(.t 6),(.t 9),(.t 8)]⟩,⟨some 12,none,.call 114 [(.t 10),(.t 11)]⟩]))

set_option maxRecDepth 100000 in
theorem tr164 : trFn Tryz.prog Tryz.f164 = some (13, ir164, []) := by kernel_rfl

theorem Hopf_tensor_1 (h : HT) (a : Nat) (A B : Nat → Int) (t j k : Nat) (ht : t = 8 * j + k) (hj : j < 8) (hk : k < 8)
    (b bB oB bb bh bf bo : Nat) (K KB Kb Kh : Blk) (H : Hp) (n : Nat) (hS : HS h a) (hb : H.get b = some K) (hsz : K.size = 1106) (hK : h.At K.c) (hB : h.By) (hA : isBy 64 A) (hBb : isBy 64 B)
    (gB : H.get bB = some KB) (sB : oB + 64 ≤ KB.size) (cB : ∀ q, q < 64 → KB.c (oB + q) = .int .u8 (B q))
    (gb : H.get bb = some Kb) (sb : Kb.size = 1) (cb : Kb.c 0 = .ptr bB oB) (gh : H.get bh = some Kh) (sh : Kh.size = 1) (ch : Kh.c 0 = .ptr b 0) (gf : H.get bf = some ⟨2, fldC h.p a, 71⟩)
    (go : H.get bo = some ⟨64, bys (tns h.p h.m A B t 0), 33⟩)
    (d1 : bo ≠ b) (d2 : bo ≠ bh) (d3 : bo ≠ bb) (d4 : bo ≠ bf) (d5 : bo ≠ bB) :
    FnS Tryz.prog 164 [i64 j, i64 k, i64 (A t), ptr bb 0, ptr bh 0, ptr bf 0, ptr bo 0] H n (fun _ H' _ => H' = H.set bo (bys (tns h.p h.m A B (t + 1) 0))) := by
  have hp := hS.hp
  have hs0 : H.set bo (bys (tns h.p h.m A B t 0)) = H := Hp.set_self go
  refine FnS.of_body Tryz.func164 tr164 (by simp) (fun hf => ?_)
  dsimp only [argEnv]
  unfold ir164
  have hbn := getlt hf hb
  have hbn1 := getlt hf gB
  have hbn2 := getlt hf gb
  have hbn3 := getlt hf gh
  have hbn4 := getlt hf gf
  have hbn5 := getlt hf go
  (refine zG ?_)
  refine RS.call rfl ((impl_pairs B bB oB _ _ (fun s => (n + 2, ⟨1, fun _ => .int .i64 (A t), 3⟩) :: (n + 1, ⟨1, fun _ => .int .i64 k, 3⟩) :: (n, ⟨1, fun _ => .int .i64 j, 3⟩) :: H.set bo (bys (tns h.p h.m A B t s))) _ _ (by (try dsimp only); rw [hs0])
    (fun s hs => ⟨KB, by exact zH, sB, cB⟩) hBb (fun s hs hz => by (try dsimp only); rw [tns_same hz]) (fun s l i' n' hs hs' hi' hz hn' => ?_)).mono ?_)
  · refine (Hopf_tensor_2 h a A B t j k s l i' ht hj hk hs' (by omega) hi' b bh n bf bo (n + 2) (n + 1) K Kh _ _ _ _ n' hS (by exact zH) hsz hK hB hA hBb (by exact zH) sh ch (by exact zH) rfl rfl (by exact zH) (by simp (disch := omega) only [Hp.get_ne]; exact Hp.get_set_self _ go) (by exact zH) rfl rfl (by exact zH) rfl rfl d1 d2 (by omega) d4 (by omega) (by omega)).mono ?_
    rintro r H' n2 hn2 rfl
    simp (disch := omega) only [Hp.set_eq, Hp.set_ne, Hp.set_set]
  rintro r H' n2 hn2 rfl
  (refine zG ?_)
  exact ⟨_, H.set bo (bys (tns h.p h.m A B (t + 1) 0)), rfl, by
    rw [tns_next]
    refine Drops.drop (by omega) ?_ (Drops.drop (by omega) ?_ (Drops.drop (by omega) ?_ (Drops.refl _ _))) <;> exact Hp.get_set_none _ (hf _ (by omega)), rfl⟩

/-- (*impl.Hopf).folded$1 -/
def ir166 : Cd := (.seq (.reg [⟨some 10,none,.ld none (.t 3)⟩]) (.cond (.t 10) (.drwo true [12] [0,1,2,3,4,5,6,7,8,9,10,11,12] [⟨some 11,none,.ld (some 2) (.t 4)⟩,⟨some 12,none,.mov (.t 2)⟩,⟨some 13,none,.ld none (.t 6)⟩,⟨some 14,none,.ld none (.t 6)⟩,⟨some 15,none,.mov (.t 0)⟩,⟨some 16,none,.ck (.t 14)⟩,⟨some 17,none,.fa 1042 (.t 16)⟩,⟨some 18,none,.ia 8 8 (.t 17) (.t 15)⟩,⟨some 19,none,.ld (some 8) (.t 18)⟩,⟨some 20,none,.mov (.t 1)⟩,⟨some 21,none,.call 53 [(.t 20)]⟩,⟨some 22,none,.call 52 [(.t 13),(.t 19),(.t 21)]⟩,⟨some 23,none,.call 50 [(.t 11),(.t 5),(.t 12),(.t 22)]⟩]) (.drwo true [12] [0,1,2,3,5,6,7,8,9,10,4,11,12] [⟨some 24,none,.ld (some 2) (.t 4)⟩,⟨some 25,none,.mov (.t 2)⟩,⟨some 26,none,.ld none (.t 6)⟩,⟨some 27,none,.mov (.t 0)⟩,⟨some 28,none,.call 53 [(.t 27)]⟩,⟨some 29,none,.ld none (.t 6)⟩,⟨some 30,none,.mov (.t 1)⟩,⟨some 31,none,.ck (.t 29)⟩,⟨some 32,none,.fa 1042 (.t 31)⟩,⟨some 33,none,.ia 8 8 (.t 32) (.t 30)⟩,⟨some 34,none,.ld (some 8) (.t 33)⟩,⟨some 35,none,.call 52 [(.t 26),(.t 28),(.t 34)]⟩,⟨some 36,none,.call 50 [(.t 24),(.t 5),(.t 25),(.t 35)]⟩])))

set_option maxRecDepth 100000 in
theorem tr166 : trFn Tryz.prog Tryz.f166 = some (37, ir166, []) := by kernel_rfl

theorem Hopf_folded_1 (h : HT) (a : Nat) (i t j k : Nat) (fp : Bool) (g : Nat → Nat → Int) (hg : g = if fp = true then g6 h.p h.m h.s a else g7 h.p h.m h.s a) (hi : i < 8) (ht : t = 8 * j + k) (hj : j < 8) (hk : k < 8)
    (b bq bf bo bh : Nat) (K Kq Kh : Blk) (H : Hp) (n : Nat) (hS : HS h a) (hb : H.get b = some K) (hsz : K.size = 1106) (hK : h.At K.c) (hB : h.By)
    (gq : H.get bq = some Kq) (sq : Kq.size = 1) (cq : Kq.c 0 = .bool fp) (gf : H.get bf = some ⟨2, fldC h.p a, 71⟩)
    (go : H.get bo = some ⟨8, bys (fold h.p h.c i g t), 31⟩) (gh : H.get bh = some Kh) (sh : Kh.size = 1) (ch : Kh.c 0 = .ptr b 0) :
    FnS Tryz.prog 166 [i64 j, i64 k, i64 (h.c (64 * i + t)), ptr bq 0, ptr bf 0, ptr bo 0, ptr bh 0] H n (fun _ H' _ => H' = H.set bo (bys (fold h.p h.c i g (t + 1)))) := by
  have hp := hS.hp
  have ha := hS.ha
  have hk5 := hK.s
  have hct := hB.c (64 * i + t) (by omega)
  refine FnS.of_body Tryz.func166 tr166 (by simp) (fun hf => ?_)
  dsimp only [argEnv]
  unfold ir166
  have hbn := getlt hf hb
  cases fp
  · have hg7 : g = g7 h.p h.m h.s a := by rw [hg]; rfl
    (refine zG ?_)
    refine CS.tailLo _ (List.Mem.head _) ?_; dsimp only [List.take, List.drop]
    (refine zG ?_)
    refine LS.callQ (.arr 8 (bys (bas j))) rfl (fun n' hn' => impl_basis j _ _ (by omega)) ?_
    (refine zG ?_)
    refine LS.callQ (.arr 8 (bys (g t))) rfl (fun n' hn' => by
      rw [hg7]; unfold g7; rw [ht, show (8 * j + k) / 8 = j by omega, show (8 * j + k) % 8 = k by omega]
      exact Hopf_product h a (bas j) (fun y => h.s (8 * k + y)) b K _ _ hS (by exact zH) hsz hK hB (bas_by _ _) (hB.rows (by omega))) ?_
    (repeat first|refine zG ?_|(refine LS.nilO ?_;intro nq hnq hltq;try refine zU ?_)|(refine MS.new ?_;intro bq hbq hbqf;try refine zU ?_)|(refine MS.nil ?_;intro nq hnq hltq;have hlq:=hltq _ _ (Hp.get_eq _ _ _);clear hltq;try refine zU ?_)|(refine LS.nilQ ?_;try with_reducible intro nq hnq;try refine zU ?_))
    refine RS.call rfl ((field_plus h.p a (h.c (64 * i + t)) (fold h.p h.c i g t) (g t) bo 0 _ _ _ hp (by exact zH) (by simp) (fun _ _ => by rw [Nat.zero_add]; rfl) (fold_res hp.1 _ _ _ _ _) (by rw [hg7]; exact (g7_res hp.1 _ _ _ _ _).by hp.2) (by omega)).mono ?_)
    rintro r H' n5 hn5 ⟨rfl, rfl⟩
    (refine zG ?_)
    exact ⟨_, H.set bo (bys (fold h.p h.c i g (t + 1))), rfl, Drops.setc go (fun q hq => (splice_all _ _ 8 q hq).trans (by rw [fold_step])), rfl⟩
  · have hg6 : g = g6 h.p h.m h.s a := by rw [hg]; rfl
    (refine zG ?_)
    refine CS.tailLo _ (List.Mem.head _) ?_; dsimp only [List.take, List.drop]
    (refine zG ?_)
    refine LS.callQ (.arr 8 (bys (bas k))) rfl (fun n' hn' => impl_basis k _ _ (by omega)) ?_
    (repeat first|refine zG ?_|(refine LS.nilO ?_;intro nq hnq hltq;try refine zU ?_)|(refine MS.new ?_;intro bq hbq hbqf;try refine zU ?_)|(refine MS.nil ?_;intro nq hnq hltq;have hlq:=hltq _ _ (Hp.get_eq _ _ _);clear hltq;try refine zU ?_)|(refine LS.nilQ ?_;try with_reducible intro nq hnq;try refine zU ?_))
    refine LS.callQ (.arr 8 (bys (g t))) rfl (fun n' hn' => by
      rw [hg6]; unfold g6; rw [ht, show (8 * j + k) / 8 = j by omega, show (8 * j + k) % 8 = k by omega]
      exact Hopf_product h a (fun y => h.s (8 * j + y)) (bas k) b K _ _ hS (by exact zH) hsz hK hB (hB.rows (by omega)) (bas_by _ _)) ?_
    (repeat first|refine zG ?_|(refine LS.nilO ?_;intro nq hnq hltq;try refine zU ?_)|(refine MS.new ?_;intro bq hbq hbqf;try refine zU ?_)|(refine MS.nil ?_;intro nq hnq hltq;have hlq:=hltq _ _ (Hp.get_eq _ _ _);clear hltq;try refine zU ?_)|(refine LS.nilQ ?_;try with_reducible intro nq hnq;try refine zU ?_))
    refine RS.call rfl ((field_plus h.p a (h.c (64 * i + t)) (fold h.p h.c i g t) (g t) bo 0 _ _ _ hp (by exact zH) (by simp) (fun _ _ => by rw [Nat.zero_add]; rfl) (fold_res hp.1 _ _ _ _ _) (by rw [hg6]; exact (g6_res hp.1 _ _ _ _ _).by hp.2) (by omega)).mono ?_)
    rintro r H' n5 hn5 ⟨rfl, rfl⟩
    (refine zG ?_)
    exact ⟨_, H.set bo (bys (fold h.p h.c i g (t + 1))), rfl, Drops.setc go (fun q hq => (splice_all _ _ 8 q hq).trans (by rw [fold_step])), rfl⟩

/-- laws.toHopf -/
def ir7 : Cd := (.seq (.reg [⟨some 1,none,.box 26 (.t 0)⟩,⟨some 2,none,.new 41 [(2,(.int .i64 0)),(1104,(.int .u8 0))]⟩]) (.seq (.reg [⟨some 3,none,.new 41 [(2,(.int .i64 0)),(1104,(.int .u8 0))]⟩]) (.seq (.reg [⟨some 4,none,.fa 0 (.t 1)⟩,⟨some 5,none,.ld none (.t 4)⟩,⟨some 6,none,.fa 0 (.t 3)⟩,⟨none,none,.st 1 (.t 6) (.t 5)⟩]) (.seq (.reg [⟨some 7,none,.fa 1 (.t 1)⟩,⟨some 8,none,.ld none (.t 7)⟩,⟨some 9,none,.fa 1 (.t 3)⟩,⟨none,none,.st 1 (.t 9) (.t 8)⟩]) (.seq (.reg [⟨some 10,none,.fa 2 (.t 1)⟩,⟨some 11,none,.ld (some 8) (.t 10)⟩,⟨some 12,none,.call 23 [(.t 11)]⟩,⟨some 13,none,.fa 2 (.t 3)⟩,⟨none,none,.st 8 (.t 13) (.t 12)⟩]) (.seq (.reg [⟨some 14,none,.fa 10 (.t 1)⟩,⟨some 15,none,.ld (some 512) (.t 14)⟩,⟨some 16,none,.call 24 [(.t 15)]⟩,⟨some 17,none,.fa 10 (.t 3)⟩,⟨none,none,.st 512 (.t 17) (.t 16)⟩]) (.seq (.reg [⟨some 18,none,.fa 522 (.t 1)⟩,⟨some 19,none,.ld (some 8) (.t 18)⟩,⟨some 20,none,.call 23 [(.t 19)]⟩,⟨some 21,none,.fa 522 (.t 3)⟩,⟨none,none,.st 8 (.t 21) (.t 20)⟩]) (.seq (.reg [⟨some 22,none,.fa 530 (.t 1)⟩,⟨some 23,none,.ld (some 512) (.t 22)⟩,⟨some 24,none,.call 24 [(.t 23)]⟩,⟨some 25,none,.fa 530 (.t 3)⟩,⟨none,none,.st 512 (.t 25) (.t 24)⟩]) (.seq (.reg [⟨some 26,none,.fa 1042 (.t 1)⟩,⟨some 27,none,.ld (some 64) (.t 26)⟩,⟨some 28,none,.call 25 [(.t 27)]⟩,⟨some 29,none,.fa 1042 (.t 3)⟩,⟨none,none,.st 64 (.t 29) (.t 28)⟩]) (.seq (.reg [⟨some 30,none,.ld (some 1106) (.t 3)⟩,⟨none,none,.st 1106 (.t 2) (.t 30)⟩]) .ret))))))))))

set_option maxRecDepth 100000 in
theorem tr7 : trFn Tryz.prog Tryz.f7 = some (31, ir7, [.cell (some 1106) 2]) := by kernel_rfl

theorem laws_toHopf (h : HT) (K : Nat → SV) (H : Hp) (n : Nat) (hK : h.At K) :
    FnS Tryz.prog 7 [.arr 1106 K] H n (fun r H' _ => r = .arr 1106 K ∧ H' = H) := by
  obtain ⟨k0, k1, k2, k3, k4, k5, k6⟩ := hK
  refine FnS.of_body Tryz.func7 tr7 (by simp) (fun hf => ?_)
  dsimp only [argEnv]
  unfold ir7
  (refine zG ?_)
  refine RS.call rfl ((laws_toVector h.u _ _).mono ?_)
  rintro r H' n2 hn2 ⟨rfl, rfl⟩
  (refine zG ?_)
  refine RS.call rfl ((laws_toTable h.m _ _).mono ?_)
  rintro r H' n3 hn3 ⟨rfl, rfl⟩
  (refine zG ?_)
  refine RS.call rfl ((laws_toVector h.e _ _).mono ?_)
  rintro r H' n4 hn4 ⟨rfl, rfl⟩
  (refine zG ?_)
  refine RS.call rfl ((laws_toTable h.c _ _).mono ?_)
  rintro r H' n5 hn5 ⟨rfl, rfl⟩
  (refine zG ?_)
  refine RS.call rfl ((laws_toLinear h.s _ _).mono ?_)
  rintro r H' n6 hn6 ⟨rfl, rfl⟩
  (refine zG ?_)
  refine ⟨.arr 1106 K, H, conc_arr (fun q hq => ?_), by exact zD, rfl, rfl⟩
  simp only [Nat.zero_add, splice, put1]
  by_cases e0 : q < 2
  · rw [if_neg (by omega), if_neg (by omega), if_neg (by omega), if_neg (by omega), if_neg (by omega)]
    by_cases e1 : q = 1
    · subst e1; rw [if_pos rfl]; exact k1.symm
    · have : q = 0 := by omega
      subst this; rw [if_neg (by omega), if_pos rfl]; exact k0.symm
  by_cases e1 : q < 10
  · rw [if_neg (by omega), if_neg (by omega), if_neg (by omega), if_neg (by omega), if_pos (by omega)]
    have := k2 (q - 2) (by omega)
    rw [show 2 + (q - 2) = q by omega] at this
    rw [this]; rfl
  by_cases e2 : q < 522
  · rw [if_neg (by omega), if_neg (by omega), if_neg (by omega), if_pos (by omega)]
    have := k3 (q - 10) (by omega)
    rw [show 10 + (q - 10) = q by omega] at this
    rw [this]; rfl
  by_cases e3 : q < 530
  · rw [if_neg (by omega), if_neg (by omega), if_pos (by omega)]
    have := k4 (q - 522) (by omega)
    rw [show 522 + (q - 522) = q by omega] at this
    rw [this]; rfl
  by_cases e4 : q < 1042
  · rw [if_neg (by omega), if_pos (by omega)]
    have := k5 (q - 530) (by omega)
    rw [show 530 + (q - 530) = q by omega] at this
    rw [this]; rfl
  · rw [if_pos (by omega)]
    have := k6 (q - 1042) (by omega)
    rw [show 1042 + (q - 1042) = q by omega] at this
    rw [this]; rfl

end Go.Proofs.YtkmfdhicjaccaaaGreat
