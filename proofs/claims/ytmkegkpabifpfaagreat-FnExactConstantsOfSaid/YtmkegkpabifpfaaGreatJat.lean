/- Contracts of the program's functions. -/
import Derived.Test.YtmkegkpabifpfaaGreatJam
import Derived.Test.YtmkegkpabifpfaaGreatJal
import Derived.Test.YtmkegkpabifpfaaGreatJaq
import Derived.Test.YtmkegkpabifpfaaGreatJas
import Derived.Test.YtmkegkpabifpfaaGreatJar
namespace Go.Proofs.YtmkegkpabifpfaaGreat
open Go.V
set_option linter.unusedSimpArgs false
set_option linter.unusedVariables false
set_option maxHeartbeats 4000000
/-- spec.l02Shape -/
def ir104 : Cd := (.seq (.reg [⟨some 1,none,.box 131 (.t 0)⟩,⟨some 2,none,.mov (.c (.bool false))⟩]) (.seq (.reg [⟨some 3,none,.fa 0 (.t 1)⟩,⟨some 4,none,.ld none (.t 3)⟩,⟨some 5,none,.fa 1 (.t 1)⟩,⟨some 6,none,.ld none (.t 5)⟩,⟨some 7,none,.call 65 [(.t 4),(.t 6)]⟩,⟨some 8,none,.mov (.t 7)⟩,⟨some 9,(some (8,true)),.fa 0 (.t 1)⟩,⟨some 10,(some (8,true)),.ld none (.t 9)⟩,⟨some 11,(some (8,true)),.fa 1 (.t 1)⟩,⟨some 12,(some (8,true)),.ld none (.t 11)⟩,⟨some 13,(some (8,true)),.fa 2 (.t 1)⟩,⟨some 14,(some (8,true)),.ld (some 8) (.t 13)⟩,⟨some 15,(some (8,true)),.call 61 [(.t 10),(.t 12),(.t 14)]⟩,⟨some 16,none,.pick (.t 8) (.t 15) (.c (.bool false))⟩,⟨some 17,none,.mov (.t 16)⟩,⟨some 18,(some (17,true)),.fa 0 (.t 1)⟩,⟨some 19,(some (17,true)),.ld none (.t 18)⟩,⟨some 20,(some (17,true)),.fa 1 (.t 1)⟩,⟨some 21,(some (17,true)),.ld none (.t 20)⟩,⟨some 22,(some (17,true)),.fa 10 (.t 1)⟩,⟨some 23,(some (17,true)),.ld (some 512) (.t 22)⟩,⟨some 24,(some (17,true)),.call 62 [(.t 19),(.t 21),(.t 23)]⟩,⟨some 25,none,.pick (.t 17) (.t 24) (.c (.bool false))⟩,⟨some 2,none,.mov (.t 25)⟩]) .ret))
set_option maxRecDepth 100000 in
theorem tr104 : trFn Tryz.prog Tryz.f104 = some (26, ir104, [.tmp 2]) := by kernel_rfl
theorem spec_l02Shape (p n' : Int) (u m : Nat → Int) (K : Nat → SV) (H : Hp) (n : Nat) (h0 : K 0 = .int .i64 p) (h1 : K 1 = .int .i64 n')
    (hU : ∀ q, q < 8 → K (2 + q) = .int .u8 (u q)) (hK : ∀ q, q < 512 → K (10 + q) = .int .u8 (m q)) (hu : isBy 8 u) (hm : isBy 512 m) :
    FnS Tryz.prog 104 [.arr 522 K] H n (fun v H' _ => v = bl (tb (shp p n' u m)) ∧ H' = H) := by
  refine FnS.of_body Tryz.func104 tr104 (by simp) (fun hf => ?_)
  dsimp only [argEnv]
  unfold ir104
  (refine zG ?_)
  refine RS.call rfl ((spec_l01Sizes _ _ _ _).mono ?_)
  rintro r H n2 hn2 ⟨rfl, rfl⟩
  (refine zG ?_)
  refine RS.sp (t := 8) rfl (fun h2 => ?_) (fun h2 => ?_) <;> (try simp only [tb_eq, tb_eqF, decide_eq_true_eq, decide_eq_false_iff_not, beq_iff_eq, bne_iff_ne, ne_eq, Decidable.not_not, beq_eq_false_iff_ne, bne_eq_false_iff_eq, Bool.not_eq_true', Bool.not_eq_false', Bool.not_eq_eq_eq_not, Bool.not_true, Bool.not_false] at h2)
  · (refine zG ?_)
    refine RS.call rfl ((spec_l01Vector p n' u _ _ hu).mono ?_)
    rintro r H n3 hn3 ⟨rfl, rfl⟩
    (refine zG ?_)
    refine RS.sp (t := 17) rfl (fun h3 => ?_) (fun h3 => ?_) <;> (try simp only [tb_eq, tb_eqF, decide_eq_true_eq, decide_eq_false_iff_not, beq_iff_eq, bne_iff_ne, ne_eq, Decidable.not_not, beq_eq_false_iff_ne, bne_eq_false_iff_eq, Bool.not_eq_true', Bool.not_eq_false', Bool.not_eq_eq_eq_not, Bool.not_true, Bool.not_false] at h3)
    · (refine zG ?_)
      refine RS.call rfl ((spec_l01Table p n' m _ _ hm).mono ?_)
      rintro r H n4 hn4 ⟨rfl, rfl⟩
      (refine zG ?_)
      exact ⟨_, H, rfl, by exact zD, congrArg bl (tb_iff ⟨fun h => ⟨h2, h3, h⟩, fun h => h.2.2⟩), rfl⟩
    · (refine zG ?_)
      exact ⟨_, H, rfl, by exact zD, by rw [tb_false (fun h => h3 h.2.1)], rfl⟩
  · (refine zG ?_)
    exact ⟨_, H, rfl, by exact zD, by rw [tb_false (fun h => h2 h.1)], rfl⟩
/-- (*impl.Hopf).tensor$1 -/
def ir136 : Cd := (.seq (.reg [⟨some 7,none,.box 3 (.t 0)⟩,⟨some 8,none,.box 3 (.t 1)⟩,⟨some 9,none,.box 3 (.t 2)⟩]) (.reg [⟨some 10,none,.ld none (.t 3)⟩,⟨some 11,none,.mkf 137 [] [(.t 4),(.t 7),(.t 5),(.t 6),(.t 9),(.t 8)]⟩,⟨some 12,none,.call 50 [(.t 10),(.t 11)]⟩]))
set_option maxRecDepth 100000 in
theorem tr136 : trFn Tryz.prog Tryz.f136 = some (13, ir136, []) := by kernel_rfl
theorem Hopf_tensor_1 (h : HT) (a : Nat) (A B : Nat → Int) (t j k : Nat) (ht : t = 8 * j + k) (hj : j < 8) (hk : k < 8)
    (b bB oB bb bh bf bo : Nat) (K KB Kb Kh : Blk) (H : Hp) (n : Nat) (hS : HS h a) (hb : H.get b = some K) (hsz : K.size = 1106) (hK : h.At K.c) (hB : h.By) (hA : isBy 64 A) (hBb : isBy 64 B)
    (gB : H.get bB = some KB) (sB : oB + 64 ≤ KB.size) (cB : ∀ q, q < 64 → KB.c (oB + q) = .int .u8 (B q))
    (gb : H.get bb = some Kb) (sb : Kb.size = 1) (cb : Kb.c 0 = .ptr bB oB) (gh : H.get bh = some Kh) (sh : Kh.size = 1) (ch : Kh.c 0 = .ptr b 0) (gf : H.get bf = some ⟨2, fldC h.p a, 76⟩)
    (go : H.get bo = some ⟨64, bys (tns h.p h.m A B t 0), 36⟩)
    (d1 : bo ≠ b) (d2 : bo ≠ bh) (d3 : bo ≠ bb) (d4 : bo ≠ bf) (d5 : bo ≠ bB) :
    FnS Tryz.prog 136 [i64 j, i64 k, i64 (A t), ptr bb 0, ptr bh 0, ptr bf 0, ptr bo 0] H n (fun _ H' _ => H' = H.set bo (bys (tns h.p h.m A B (t + 1) 0))) := by
  have hp := hS.hp
  have hs0 : H.set bo (bys (tns h.p h.m A B t 0)) = H := Hp.set_self go
  refine FnS.of_body Tryz.func136 tr136 (by simp) (fun hf => ?_)
  dsimp only [argEnv]
  unfold ir136
  have hbn := getlt hf hb
  have hbn1 := getlt hf gB
  have hbn2 := getlt hf gb
  have hbn3 := getlt hf gh
  have hbn4 := getlt hf gf
  have hbn5 := getlt hf go
  (refine zG ?_)
  refine RS.call rfl ((impl_pairs B bB oB _ _ (fun s => (n + 2, ⟨1, fun _ => .int .i64 (A t), 3⟩) :: (n + 1, ⟨1, fun _ => .int .i64 k, 3⟩) :: (n, ⟨1, fun _ => .int .i64 j, 3⟩) :: H.set bo (bys (tns h.p h.m A B t s))) _ _ (by (try dsimp only); rw [hs0])
    (fun s hs => ⟨KB, by exact zH, sB, cB⟩) hBb (fun s hs hz => by (try dsimp only); rw [tns_same hz]) (fun s l i' n' hs hs' hi' hz hn' => ?_)).mono ?_)
  · refine (Hopf_tensor_2 h a A B t j k s l i' ht hj hk hs' (by omega) hi' b bh n bf bo (n + 2) (n + 1) K Kh _ _ _ _ n' hS (by exact zH) hsz hK hB hA hBb (by exact zH) sh ch (by exact zH) rfl rfl (by exact zH) (by simp (disch := omega) only [Hp.get_ne]; exact Hp.get_set_self _ go) (by exact zH) rfl rfl (by exact zH) rfl rfl d1 d2 (by omega) d4 (by omega) (by omega)).mono ?_
    rintro r H' n2 hn2 rfl
    simp (disch := omega) only [Hp.set_eq, Hp.set_ne, Hp.set_set]
  rintro r H' n2 hn2 rfl
  (refine zG ?_)
  exact ⟨_, H.set bo (bys (tns h.p h.m A B (t + 1) 0)), rfl, by
    rw [tns_next]
    refine Drops.drop (by omega) ?_ (Drops.drop (by omega) ?_ (Drops.drop (by omega) ?_ (Drops.refl _ _))) <;> exact Hp.get_set_none _ (hf _ (by omega)), rfl⟩
/-- (*impl.Hopf).folded$1 -/
def ir138 : Cd := (.seq (.reg [⟨some 10,none,.ld none (.t 3)⟩]) (.cond (.t 10) (.drwo true [12] [0,1,2,3,4,5,6,7,8,9,10,11,12] [⟨some 11,none,.ld (some 2) (.t 4)⟩,⟨some 12,none,.mov (.t 2)⟩,⟨some 13,none,.ld none (.t 6)⟩,⟨some 14,none,.ld none (.t 6)⟩,⟨some 15,none,.mov (.t 0)⟩,⟨some 16,none,.ck (.t 14)⟩,⟨some 17,none,.fa 1042 (.t 16)⟩,⟨some 18,none,.ia 8 8 (.t 17) (.t 15)⟩,⟨some 19,none,.ld (some 8) (.t 18)⟩,⟨some 20,none,.mov (.t 1)⟩,⟨some 21,none,.call 78 [(.t 20)]⟩,⟨some 22,none,.call 139 [(.t 13),(.t 19),(.t 21)]⟩,⟨some 23,none,.call 52 [(.t 11),(.t 5),(.t 12),(.t 22)]⟩]) (.drwo true [12] [0,1,2,3,5,6,7,8,9,10,4,11,12] [⟨some 24,none,.ld (some 2) (.t 4)⟩,⟨some 25,none,.mov (.t 2)⟩,⟨some 26,none,.ld none (.t 6)⟩,⟨some 27,none,.mov (.t 0)⟩,⟨some 28,none,.call 78 [(.t 27)]⟩,⟨some 29,none,.ld none (.t 6)⟩,⟨some 30,none,.mov (.t 1)⟩,⟨some 31,none,.ck (.t 29)⟩,⟨some 32,none,.fa 1042 (.t 31)⟩,⟨some 33,none,.ia 8 8 (.t 32) (.t 30)⟩,⟨some 34,none,.ld (some 8) (.t 33)⟩,⟨some 35,none,.call 139 [(.t 26),(.t 28),(.t 34)]⟩,⟨some 36,none,.call 52 [(.t 24),(.t 5),(.t 25),(.t 35)]⟩])))
set_option maxRecDepth 100000 in
theorem tr138 : trFn Tryz.prog Tryz.f138 = some (37, ir138, []) := by kernel_rfl
theorem Hopf_folded_1 (h : HT) (a : Nat) (i t j k : Nat) (fp : Bool) (g : Nat → Nat → Int) (hg : g = if fp = true then g6 h.p h.m h.s a else g7 h.p h.m h.s a) (hi : i < 8) (ht : t = 8 * j + k) (hj : j < 8) (hk : k < 8)
    (b bq bf bo bh : Nat) (K Kq Kh : Blk) (H : Hp) (n : Nat) (hS : HS h a) (hb : H.get b = some K) (hsz : K.size = 1106) (hK : h.At K.c) (hB : h.By)
    (gq : H.get bq = some Kq) (sq : Kq.size = 1) (cq : Kq.c 0 = .bool fp) (gf : H.get bf = some ⟨2, fldC h.p a, 76⟩)
    (go : H.get bo = some ⟨8, bys (fold h.p h.c i g t), 34⟩) (gh : H.get bh = some Kh) (sh : Kh.size = 1) (ch : Kh.c 0 = .ptr b 0) :
    FnS Tryz.prog 138 [i64 j, i64 k, i64 (h.c (64 * i + t)), ptr bq 0, ptr bf 0, ptr bo 0, ptr bh 0] H n (fun _ H' _ => H' = H.set bo (bys (fold h.p h.c i g (t + 1)))) := by
  have hp := hS.hp
  have ha := hS.ha
  have hk5 := hK.s
  have hct := hB.c (64 * i + t) (by omega)
  refine FnS.of_body Tryz.func138 tr138 (by simp) (fun hf => ?_)
  dsimp only [argEnv]
  unfold ir138
  have hbn := getlt hf hb
  cases fp
  · have hg7 : g = g7 h.p h.m h.s a := by rw [hg]; rfl
    (refine zG ?_)
    refine CS.tailLo _ (List.Mem.head _) ?_; dsimp only [List.take, List.drop]
    (refine zG ?_)
    refine LS.callQ (.arr 8 (bys (bas j))) rfl (fun n' hn' => impl_basis j _ _ (by omega)) ?_
    (refine zG ?_)
    refine LS.callQ (.arr 8 (bys (g t))) rfl (fun n' hn' => by
      rw [hg7]; unfold g7; rw [ht, show (8 * j + k) / 8 = j by omega, show (8 * j + k) % 8 = k by omega]
      exact Hopf_product h a (bas j) (fun y => h.s (8 * k + y)) b K _ _ hS (by exact zH) hsz hK hB (bas_by _ _) (hB.rows (by omega))) ?_
    (repeat first|refine zG ?_|(refine LS.nilO ?_;intro nq hnq hltq;try refine zU ?_)|(refine MS.new ?_;intro bq hbq hbqf;try refine zU ?_)|(refine MS.nil ?_;intro nq hnq hltq;have hlq:=hltq _ _ (Hp.get_eq _ _ _);clear hltq;try refine zU ?_)|(refine LS.nilQ ?_;try with_reducible intro nq hnq;try refine zU ?_))
    refine RS.call rfl ((field_plus h.p a (h.c (64 * i + t)) (fold h.p h.c i g t) (g t) bo 0 _ _ _ hp (by exact zH) (by simp) (fun _ _ => by rw [Nat.zero_add]; rfl) (fold_res hp.1 _ _ _ _ _) (by rw [hg7]; exact (g7_res hp.1 _ _ _ _ _).by hp.2) (by omega)).mono ?_)
    rintro r H' n5 hn5 ⟨rfl, rfl⟩
    (refine zG ?_)
    exact ⟨_, H.set bo (bys (fold h.p h.c i g (t + 1))), rfl, Drops.setc go (fun q hq => (splice_all _ _ 8 q hq).trans (by rw [fold_step])), rfl⟩
  · have hg6 : g = g6 h.p h.m h.s a := by rw [hg]; rfl
    (refine zG ?_)
    refine CS.tailLo _ (List.Mem.head _) ?_; dsimp only [List.take, List.drop]
    (refine zG ?_)
    refine LS.callQ (.arr 8 (bys (bas k))) rfl (fun n' hn' => impl_basis k _ _ (by omega)) ?_
    (repeat first|refine zG ?_|(refine LS.nilO ?_;intro nq hnq hltq;try refine zU ?_)|(refine MS.new ?_;intro bq hbq hbqf;try refine zU ?_)|(refine MS.nil ?_;intro nq hnq hltq;have hlq:=hltq _ _ (Hp.get_eq _ _ _);clear hltq;try refine zU ?_)|(refine LS.nilQ ?_;try with_reducible intro nq hnq;try refine zU ?_))
    refine LS.callQ (.arr 8 (bys (g t))) rfl (fun n' hn' => by
      rw [hg6]; unfold g6; rw [ht, show (8 * j + k) / 8 = j by omega, show (8 * j + k) % 8 = k by omega]
      exact Hopf_product h a (fun y => h.s (8 * j + y)) (bas k) b K _ _ hS (by exact zH) hsz hK hB (hB.rows (by omega)) (bas_by _ _)) ?_
    (repeat first|refine zG ?_|(refine LS.nilO ?_;intro nq hnq hltq;try refine zU ?_)|(refine MS.new ?_;intro bq hbq hbqf;try refine zU ?_)|(refine MS.nil ?_;intro nq hnq hltq;have hlq:=hltq _ _ (Hp.get_eq _ _ _);clear hltq;try refine zU ?_)|(refine LS.nilQ ?_;try with_reducible intro nq hnq;try refine zU ?_))
    refine RS.call rfl ((field_plus h.p a (h.c (64 * i + t)) (fold h.p h.c i g t) (g t) bo 0 _ _ _ hp (by exact zH) (by simp) (fun _ _ => by rw [Nat.zero_add]; rfl) (fold_res hp.1 _ _ _ _ _) (by rw [hg6]; exact (g6_res hp.1 _ _ _ _ _).by hp.2) (by omega)).mono ?_)
    rintro r H' n5 hn5 ⟨rfl, rfl⟩
    (refine zG ?_)
    exact ⟨_, H.set bo (bys (fold h.p h.c i g (t + 1))), rfl, Drops.setc go (fun q hq => (splice_all _ _ 8 q hq).trans (by rw [fold_step])), rfl⟩
/-- laws.toHopf -/
def ir5 : Cd := (.seq (.reg [⟨some 1,none,.box 26 (.t 0)⟩,⟨some 2,none,.new 40 [(2,(.int .i64 0)),(1104,(.int .u8 0))]⟩]) (.seq (.reg [⟨some 3,none,.new 40 [(2,(.int .i64 0)),(1104,(.int .u8 0))]⟩]) (.seq (.reg [⟨some 4,none,.fa 0 (.t 1)⟩,⟨some 5,none,.ld none (.t 4)⟩,⟨some 6,none,.fa 0 (.t 3)⟩,⟨none,none,.st 1 (.t 6) (.t 5)⟩]) (.seq (.reg [⟨some 7,none,.fa 1 (.t 1)⟩,⟨some 8,none,.ld none (.t 7)⟩,⟨some 9,none,.fa 1 (.t 3)⟩,⟨none,none,.st 1 (.t 9) (.t 8)⟩]) (.seq (.reg [⟨some 10,none,.fa 2 (.t 1)⟩,⟨some 11,none,.ld (some 8) (.t 10)⟩,⟨some 12,none,.call 15 [(.t 11)]⟩,⟨some 13,none,.fa 2 (.t 3)⟩,⟨none,none,.st 8 (.t 13) (.t 12)⟩]) (.seq (.reg [⟨some 14,none,.fa 10 (.t 1)⟩,⟨some 15,none,.ld (some 512) (.t 14)⟩,⟨some 16,none,.call 16 [(.t 15)]⟩,⟨some 17,none,.fa 10 (.t 3)⟩,⟨none,none,.st 512 (.t 17) (.t 16)⟩]) (.seq (.reg [⟨some 18,none,.fa 522 (.t 1)⟩,⟨some 19,none,.ld (some 8) (.t 18)⟩,⟨some 20,none,.call 15 [(.t 19)]⟩,⟨some 21,none,.fa 522 (.t 3)⟩,⟨none,none,.st 8 (.t 21) (.t 20)⟩]) (.seq (.reg [⟨some 22,none,.fa 530 (.t 1)⟩,⟨some 23,none,.ld (some 512) (.t 22)⟩,⟨some 24,none,.call 16 [(.t 23)]⟩,⟨some 25,none,.fa 530 (.t 3)⟩,⟨none,none,.st 512 (.t 25) (.t 24)⟩]) (.seq (.reg [⟨some 26,none,.fa 1042 (.t 1)⟩,⟨some 27,none,.ld (some 64) (.t 26)⟩,⟨some 28,none,.call 17 [(.t 27)]⟩,⟨some 29,none,.fa 1042 (.t 3)⟩,⟨none,none,.st 64 (.t 29) (.t 28)⟩]) (.seq (.reg [⟨some 30,none,.ld (some 1106) (.t 3)⟩,⟨none,none,.st 1106 (.t 2) (.t 30)⟩]) .ret))))))))))
set_option maxRecDepth 100000 in
theorem tr5 : trFn Tryz.prog Tryz.f5 = some (31, ir5, [.cell (some 1106) 2]) := by kernel_rfl
theorem laws_toHopf (h : HT) (K : Nat → SV) (H : Hp) (n : Nat) (hK : h.At K) :
    FnS Tryz.prog 5 [.arr 1106 K] H n (fun r H' _ => r = .arr 1106 K ∧ H' = H) := by
  obtain ⟨k0, k1, k2, k3, k4, k5, k6⟩ := hK
  refine FnS.of_body Tryz.func5 tr5 (by simp) (fun hf => ?_)
  dsimp only [argEnv]
  unfold ir5
  (refine zG ?_)
  refine RS.call rfl ((laws_toVector h.u _ _).mono ?_)
  rintro r H' n2 hn2 ⟨rfl, rfl⟩
  (refine zG ?_)
  refine RS.call rfl ((laws_toTable h.m _ _).mono ?_)
  rintro r H' n3 hn3 ⟨rfl, rfl⟩
  (refine zG ?_)
  refine RS.call rfl ((laws_toVector h.e _ _).mono ?_)
  rintro r H' n4 hn4 ⟨rfl, rfl⟩
  (refine zG ?_)
  refine RS.call rfl ((laws_toTable h.c _ _).mono ?_)
  rintro r H' n5 hn5 ⟨rfl, rfl⟩
  (refine zG ?_)
  refine RS.call rfl ((laws_toLinear h.s _ _).mono ?_)
  rintro r H' n6 hn6 ⟨rfl, rfl⟩
  (refine zG ?_)
  refine ⟨.arr 1106 K, H, conc_arr (fun q hq => ?_), by exact zD, rfl, rfl⟩
  simp only [Nat.zero_add, splice, put1]
  by_cases e0 : q < 2
  · rw [if_neg (by omega), if_neg (by omega), if_neg (by omega), if_neg (by omega), if_neg (by omega)]
    by_cases e1 : q = 1
    · subst e1; rw [if_pos rfl]; exact k1.symm
    · have : q = 0 := by omega
      subst this; rw [if_neg (by omega), if_pos rfl]; exact k0.symm
  by_cases e1 : q < 10
  · rw [if_neg (by omega), if_neg (by omega), if_neg (by omega), if_neg (by omega), if_pos (by omega)]
    have := k2 (q - 2) (by omega)
    rw [show 2 + (q - 2) = q by omega] at this
    rw [this]; rfl
  by_cases e2 : q < 522
  · rw [if_neg (by omega), if_neg (by omega), if_neg (by omega), if_pos (by omega)]
    have := k3 (q - 10) (by omega)
    rw [show 10 + (q - 10) = q by omega] at this
    rw [this]; rfl
  by_cases e3 : q < 530
  · rw [if_neg (by omega), if_neg (by omega), if_pos (by omega)]
    have := k4 (q - 522) (by omega)
    rw [show 522 + (q - 522) = q by omega] at this
    rw [this]; rfl
  by_cases e4 : q < 1042
  · rw [if_neg (by omega), if_pos (by omega)]
    have := k5 (q - 530) (by omega)
    rw [show 530 + (q - 530) = q by omega] at this
    rw [this]; rfl
  · rw [if_pos (by omega)]
    have := k6 (q - 1042) (by omega)
    rw [show 1042 + (q - 1042) = q by omega] at this
    rw [this]; rfl
end Go.Proofs.YtmkegkpabifpfaaGreat

/- Contracts of the program's functions. -/
namespace Go.Proofs.YtmkegkpabifpfaaGreat
open Go.V
set_option linter.unusedSimpArgs false
set_option linter.unusedVariables false
set_option maxHeartbeats 4000000
/-- impl.isTable -/
def ir120 : Cd := (.seq (.reg [⟨some 6,none,.mov (.c (.bool false))⟩]) (.seq (.seq (.reg [⟨some 8,none,.mov (.c (.int .i64 0))⟩]) (.block 0 (.loop (.seq (.reg [⟨some 9,none,.bin .lss (.t 8) (.c (.int .i64 8))⟩]) (.seq (.cond (.t 9) .skip (.exit 0)) (.seq (.block 1 (.seq (.reg [⟨some 10,none,.mov (.t 8)⟩,⟨some 7,none,.mov (.t 10)⟩]) (.seq (.reg [⟨some 11,none,.mov (.t 0)⟩,⟨some 12,none,.mov (.t 1)⟩,⟨some 13,none,.mov (.t 1)⟩,⟨some 14,none,.mov (.t 2)⟩,⟨some 15,none,.mov (.t 7)⟩,⟨some 16,none,.ck (.t 14)⟩,⟨some 17,none,.ia 8 64 (.t 16) (.t 15)⟩,⟨some 18,none,.call 110 [(.t 11),(.t 12),(.t 13),(.t 17)]⟩,⟨some 19,none,.un .not (.t 18)⟩,⟨some 20,none,.mov (.t 19)⟩,⟨some 21,(some (20,false)),.mov (.t 7)⟩,⟨some 22,(some (20,false)),.mov (.t 1)⟩,⟨some 23,(some (20,false)),.bin .geq (.t 21) (.t 22)⟩,⟨some 24,(some (20,false)),.mov (.t 23)⟩,⟨some 25,(some (24,true)),.mov (.t 2)⟩,⟨some 26,(some (24,true)),.mov (.t 7)⟩,⟨some 27,(some (24,true)),.ck (.t 25)⟩,⟨some 28,(some (24,true)),.ia 8 64 (.t 27) (.t 26)⟩,⟨some 29,(some (24,true)),.ld (some 64) (.t 28)⟩,⟨some 30,(some (24,true)),.build 64 [(64,(.int .u8 0))] []⟩,⟨some 31,(some (24,true)),.eqa true 64 (.t 29) (.t 30)⟩,⟨some 32,(some (20,false)),.pick (.t 24) (.t 31) (.c (.bool false))⟩,⟨some 33,none,.pick (.t 20) (.c (.bool true)) (.t 32)⟩]) (.cond (.t 33) (.seq (.reg [⟨some 6,none,.mov (.c (.bool false))⟩]) .ret) .skip)))) (.reg [⟨some 34,none,.bin .add (.t 8) (.c (.int .i64 1))⟩,⟨some 8,none,.mov (.t 34)⟩]))))))) (.seq (.reg [⟨some 6,none,.mov (.c (.bool true))⟩]) .ret)))
set_option maxRecDepth 100000 in
theorem tr120 : trFn Tryz.prog Tryz.f120 = some (35, ir120, [.tmp 6]) := by kernel_rfl
theorem impl_isTable (p n' : Int) (t : Nat → Int) (b o : Nat) (K : Blk) (H : Hp) (n : Nat) (hb : H.get b = some K) (ho : o + 512 ≤ K.size) (hc : ∀ i, i < 512 → K.c (o + i) = .int .u8 (t i)) (ht : isBy 512 t) :
    FnS Tryz.prog 120 [i64 p, i64 n', ptr b o] H n (fun r H' _ => r = bl (tb (sz p n' ∧ isTab p n' t)) ∧ H' = H) := by
  refine FnS.of_body Tryz.func120 tr120 (by simp) (fun hf => ?_)
  dsimp only [argEnv]
  unfold ir120
  (refine zG ?_)
  refine CS.iter 8 (fun i => [(8, i64 i), (2, ptr b o), (0, i64 p), (1, i64 n')]) (fun _ => H) (fun i => (1 ≤ i → sz p n') ∧ ∀ j : Nat, j < i → isLin p n' n' (fun x => t (64 * j + x)) ∧ (n' ≤ j → ∀ x, x < 64 → t (64 * j + x) = 0)) (by (repeat first | exact trivial | refine And.intro rfl ?_)) (Drops.refl _ _) ⟨by omega, fun j hj => by omega⟩ ?_
  intro i n1 hi hn hJ
  (refine zG ?_)
  refine zI ?_ ?_<;>intro h1
  · (refine zG ?_)
    refine RS.call rfl ((impl_isLinear p n' n' (fun x => t (64 * i + x)) b (o + 64 * i) K _ _ hb (by omega) (fun x hx => by rw [Nat.add_assoc]; exact hc _ (by omega)) (fun x hx => ht _ (by omega))).mono ?_)
    rintro r H' n2 hn2 ⟨rfl, rfl⟩
    (refine zG ?_)
    refine RS.sp (t := 20) rfl (fun h2 => ?_) (fun h2 => ?_) <;> (try simp only [tb_eq, tb_eqF, decide_eq_true_eq, decide_eq_false_iff_not, beq_iff_eq, bne_iff_ne, ne_eq, Decidable.not_not, beq_eq_false_iff_ne, bne_eq_false_iff_eq, Bool.not_eq_true', Bool.not_eq_false', Bool.not_eq_eq_eq_not, Bool.not_true, Bool.not_false] at h2)
    · (refine zG ?_)
      exact ⟨_, H', rfl, by exact zD, by rw [tb_false (fun h => h2 ⟨h.1, (h.2 i (by omega)).1⟩)], rfl⟩
    · (refine zG ?_)
      refine RS.sp (t := 24) rfl (fun h3 => ?_) (fun h3 => ?_) <;> (try simp only [tb_eq, tb_eqF, decide_eq_true_eq, decide_eq_false_iff_not, beq_iff_eq, bne_iff_ne, ne_eq, Decidable.not_not, beq_eq_false_iff_ne, bne_eq_false_iff_eq, Bool.not_eq_true', Bool.not_eq_false', Bool.not_eq_eq_eq_not, Bool.not_true, Bool.not_false] at h3)
      · (refine zG ?_)
        refine zI ?_ ?_<;>intro h4
        · (refine zG ?_)
          exact ⟨_, H', rfl, by exact zD, by rw [tb_false (fun h => h4 (fun x hx => (h.2 i (by omega)).2 (by omega) x hx))], rfl⟩
        · (refine zG ?_)
          refine ⟨by omega, by (repeat first | exact trivial | refine And.intro rfl ?_), by exact zD, fun _ => h2.1, fun j hj => ?_⟩
          by_cases e : j < i
          · exact hJ.2 j e
          · have : j = i := by omega
            subst this; exact ⟨h2.2, fun _ => h4⟩
      · (refine zG ?_)
        refine ⟨by omega, by (repeat first | exact trivial | refine And.intro rfl ?_), by exact zD, fun _ => h2.1, fun j hj => ?_⟩
        by_cases e : j < i
        · exact hJ.2 j e
        · have : j = i := by omega
          subst this; exact ⟨h2.2, fun h => by omega⟩
  · (refine zG ?_)
    exact ⟨_, _, rfl, by exact zD, by rw [tb_true (show sz p n' ∧ isTab p n' t from ⟨hJ.1 (by omega), fun j hj => hJ.2 j (by omega)⟩)], rfl⟩
/-- spec.l01Times -/
def ir27 : Cd := (.seq (.reg [⟨some 3,none,.box 43 (.t 0)⟩,⟨some 4,none,.box 34 (.t 1)⟩,⟨some 5,none,.box 34 (.t 2)⟩,⟨some 6,none,.new 34 [(8,(.int .u8 0))]⟩]) (.seq (.reg [⟨some 9,none,.build 8 [(8,(.int .u8 0))] []⟩,⟨some 7,none,.new 34 [(8,(.int .u8 0))]⟩,⟨none,none,.st 8 (.t 7) (.t 9)⟩]) (.seq (.seq (.reg [⟨some 8,none,.mov (.c (.int .i64 0))⟩]) (.block 0 (.loop (.seq (.seq (.reg [⟨some 10,none,.mov (.t 8)⟩,⟨some 11,none,.fa 1 (.t 3)⟩,⟨some 12,none,.ld none (.t 11)⟩,⟨some 13,none,.bin .lss (.t 10) (.t 12)⟩]) (.cond (.t 13) .skip (.exit 0))) (.seq (.block 1 (.seq (.reg [⟨some 16,none,.mov (.t 8)⟩,⟨some 17,none,.ia 8 1 (.t 4) (.t 16)⟩,⟨some 18,none,.ld none (.t 17)⟩,⟨some 19,none,.bin .neq (.t 18) (.c (.int .u8 0))⟩]) (.cond (.t 19) (.drwo true [17,18] [0,1,2,3,4,5,6,7,8,9,10,11,13,14,15,16,12,17,18] [⟨some 20,none,.fa 0 (.t 3)⟩,⟨some 21,none,.ld none (.t 20)⟩,⟨some 22,none,.ld (some 8) (.t 7)⟩,⟨some 23,none,.fa 0 (.t 3)⟩,⟨some 24,none,.ld none (.t 23)⟩,⟨some 25,none,.fa 1 (.t 3)⟩,⟨some 26,none,.ld none (.t 25)⟩,⟨some 27,none,.mov (.t 8)⟩,⟨some 28,none,.fa 10 (.t 3)⟩,⟨some 29,none,.ia 8 64 (.t 28) (.t 27)⟩,⟨some 30,none,.ld (some 64) (.t 29)⟩,⟨some 31,none,.ld (some 8) (.t 5)⟩,⟨some 32,none,.call 25 [(.t 24),(.t 26),(.t 30),(.t 31)]⟩,⟨some 33,none,.mov (.t 8)⟩,⟨some 34,none,.ia 8 1 (.t 4) (.t 33)⟩,⟨some 35,none,.ld none (.t 34)⟩,⟨some 36,none,.cv .i64 (.t 35)⟩,⟨some 37,none,.call 26 [(.t 21),(.t 22),(.t 32),(.t 36)]⟩,⟨none,none,.st 8 (.t 7) (.t 37)⟩]) .skip))) (.reg [⟨some 14,none,.mov (.t 8)⟩,⟨some 15,none,.bin .add (.t 14) (.c (.int .i64 1))⟩,⟨some 8,none,.mov (.t 15)⟩])))))) (.seq (.reg [⟨some 38,none,.ld (some 8) (.t 7)⟩,⟨none,none,.st 8 (.t 6) (.t 38)⟩]) .ret))))
set_option maxRecDepth 100000 in
theorem tr27 : trFn Tryz.prog Tryz.f27 = some (39, ir27, [.cell (some 8) 6]) := by kernel_rfl
theorem spec_l01Times (p : Int) (a : Nat) (m v w : Nat → Int) (K : Nat → SV) (H : Hp) (n : Nat) (hp : 2 ≤ p ∧ p ≤ 31) (ha : a ≤ 8) (h0 : K 0 = .int .i64 p) (h1 : K 1 = .int .i64 a)
    (hK : ∀ q, q < 512 → K (10 + q) = .int .u8 (m q)) (hm : isBy 512 m) (hv : isBy 8 v) (hw : isBy 8 w) :
    FnS Tryz.prog 27 [.arr 522 K, .arr 8 (bys v), .arr 8 (bys w)] H n (fun r H' _ => r = .arr 8 (bys (pr p m v w a)) ∧ H' = H) := by
  refine FnS.of_body Tryz.func27 tr27 (by simp) (fun hf => ?_)
  dsimp only [argEnv]
  unfold ir27
  (refine zG ?_)
  refine CS.iter a (fun i => [(8, i64 i), (3, ptr n 0), (4, ptr (n + 1) 0), (5, ptr (n + 2) 0), (6, ptr (n + 3) 0), (7, ptr (n + 4) 0)])
    (fun i => (n + 4, ⟨8, bys (pk p m v w a i 0), 34⟩) :: (n + 3, ⟨8, bys (fun _ => 0), 34⟩) :: (n + 2, ⟨8, bys w, 34⟩) :: (n + 1, ⟨8, bys v, 34⟩) :: (n, ⟨522, K, 43⟩) :: H) (fun _ => True) (by (repeat first | exact trivial | refine And.intro rfl ?_))
    (Drops.keepc rfl rfl (fun _ _ => by rw [pk_zero]; rfl) (Drops.keepc rfl rfl (fun _ _ => rfl) (Drops.refl _ _))) trivial ?_
  intro i n1 hi hn _
  (refine zG ?_)
  refine zI ?_ ?_<;>intro h2
  · have hvi := hv i (by omega)
    (refine zG ?_)
    refine zI ?_ ?_<;>intro h3
    · (repeat first|refine zG ?_|(refine LS.nilO ?_;intro nq hnq hltq;try refine zU ?_)|(refine MS.new ?_;intro bq hbq hbqf;try refine zU ?_)|(refine MS.nil ?_;intro nq hnq hltq;have hlq:=hltq _ _ (Hp.get_eq _ _ _);clear hltq;try refine zU ?_)|(refine LS.nilQ ?_;try with_reducible intro nq hnq;try refine zU ?_))
      refine CS.tailLo _ (List.Mem.head _) ?_; dsimp only [List.take, List.drop]
      (refine zG ?_)
      refine LS.callQ (.arr 8 (bys (apk p (fun q => m (64 * i + q)) w a))) rfl (fun n' hn' => spec_l01Apply p a (fun q => m (64 * i + q)) w _ _ hp ha (fun q hq => hm _ (by omega)) hw) ?_
      (repeat first|refine zG ?_|(refine LS.nilO ?_;intro nq hnq hltq;try refine zU ?_)|(refine MS.new ?_;intro bq hbq hbqf;try refine zU ?_)|(refine MS.nil ?_;intro nq hnq hltq;have hlq:=hltq _ _ (Hp.get_eq _ _ _);clear hltq;try refine zU ?_)|(refine LS.nilQ ?_;try with_reducible intro nq hnq;try refine zU ?_))
      refine RS.call rfl ((spec_l01Add p (v i) (pk p m v w a i 0) (apk p (fun q => m (64 * i + q)) w a) _ _ hp (fun q hq => by have := pk_res hp.1 m v w a i 0 8 q hq; omega) (fun q hq => by have := apk_res hp.1 (fun q => m (64 * i + q)) w a 8 q hq; omega) (by omega)).mono ?_)
      rintro r H' n2 hn2 ⟨rfl, rfl⟩
      (refine zG ?_)
      exact ⟨by omega, by (repeat first | exact trivial | refine And.intro rfl ?_), Drops.keepc rfl rfl (fun q hq => by rw [pk_whole]) (Drops.refl _ _), trivial⟩
    · (refine zG ?_)
      exact ⟨by omega, by (repeat first | exact trivial | refine And.intro rfl ?_), by rw [pk_skip h3]; exact Drops.refl _ _, trivial⟩
  · have : i = a := by omega
    subst this
    (refine zG ?_)
    exact ⟨.arr 8 (bys (pr p m v w i)), H, conc_arr (fun q hq => by simp only [Nat.zero_add]; rfl), by exact zD, rfl, rfl⟩
/-- (impl.field).pair -/
def ir130 : Cd := (.seq (.reg [⟨some 3,none,.box 76 (.t 0)⟩,⟨some 4,none,.box 34 (.t 1)⟩,⟨some 5,none,.box 34 (.t 2)⟩,⟨some 6,none,.new 36 [(64,(.int .u8 0))]⟩]) (.seq (.reg [⟨some 10,none,.build 64 [(64,(.int .u8 0))] []⟩,⟨some 7,none,.new 36 [(64,(.int .u8 0))]⟩,⟨none,none,.st 64 (.t 7) (.t 10)⟩]) (.seq (.seq (.reg [⟨some 11,none,.ld (some 8) (.t 4)⟩,⟨some 12,none,.mov (.c (.int .i64 0))⟩]) (.block 0 (.loop (.seq (.reg [⟨some 13,none,.bin .lss (.t 12) (.c (.int .i64 8))⟩]) (.seq (.cond (.t 13) .skip (.exit 0)) (.seq (.block 1 (.seq (.reg [⟨some 14,none,.mov (.t 12)⟩,⟨some 15,none,.ix 8 1 none (.t 11) (.t 12)⟩,⟨some 8,none,.mov (.t 14)⟩,⟨some 9,none,.mov (.t 15)⟩]) (.reg [⟨some 16,none,.mov (.t 8)⟩,⟨some 17,none,.ld (some 2) (.t 3)⟩,⟨some 18,none,.mov (.t 9)⟩,⟨some 19,none,.cv .i64 (.t 18)⟩,⟨some 20,none,.ld (some 8) (.t 5)⟩,⟨some 21,none,.call 55 [(.t 17),(.t 19),(.t 20)]⟩,⟨some 22,none,.ia 8 8 (.t 7) (.t 16)⟩,⟨none,none,.st 8 (.t 22) (.t 21)⟩]))) (.reg [⟨some 23,none,.bin .add (.t 12) (.c (.int .i64 1))⟩,⟨some 12,none,.mov (.t 23)⟩]))))))) (.seq (.reg [⟨some 24,none,.ld (some 64) (.t 7)⟩,⟨none,none,.st 64 (.t 6) (.t 24)⟩]) .ret))))
set_option maxRecDepth 100000 in
theorem tr130 : trFn Tryz.prog Tryz.f130 = some (25, ir130, [.cell (some 64) 6]) := by kernel_rfl
theorem field_pair (p n' : Int) (v w : Nat → Int) (H : Hp) (n : Nat) (hp : 2 ≤ p ∧ p ≤ 31) (hv : isBy 8 v) (hw : isBy 8 w) :
    FnS Tryz.prog 130 [fld p n', .arr 8 (bys v), .arr 8 (bys w)] H n (fun r H' _ => r = .arr 64 (bys (outer p v w)) ∧ H' = H) := by
  refine FnS.of_body Tryz.func130 tr130 (by simp) (fun hf => ?_)
  dsimp only [argEnv]
  unfold ir130
  (refine zG ?_)
  refine CS.iter 8 (fun i => [(12, i64 i), (11, .arr 8 (bys v)), (3, ptr n 0), (5, ptr (n + 2) 0), (6, ptr (n + 3) 0), (7, ptr (n + 4) 0)])
    (fun i => (n + 4, ⟨64, bys (rowsTo (fun _ => 0) (outer p v w) i), 36⟩) :: (n + 3, ⟨64, bys (fun _ => 0), 36⟩) :: (n + 2, ⟨8, bys w, 34⟩) :: (n + 1, ⟨8, bys v, 34⟩) :: (n, ⟨2, fldC p n', 76⟩) :: H) (fun _ => True) (by (repeat first | exact trivial | refine And.intro rfl ?_))
    (Drops.keepc rfl rfl (fun _ _ => by rw [rowsTo_zero]; rfl) (Drops.keepc rfl rfl (fun _ _ => rfl) (Drops.refl _ _))) trivial ?_
  intro i n1 hi hn _
  (refine zG ?_)
  refine zI ?_ ?_<;>intro h1
  · have hvi := hv i (by omega)
    (refine zG ?_)
    refine RS.call rfl ((field_times p n' (v i) w _ _ hp hw (by omega)).mono ?_)
    rintro r H n2 hn2 ⟨rfl, rfl⟩
    (refine zG ?_)
    exact ⟨by omega, by (repeat first | exact trivial | refine And.intro rfl ?_), Drops.keepc rfl rfl (fun q hq => rowsTo_step (fun y hy => outer_row _ _ _ _ _ hy) q) (Drops.refl _ _), trivial⟩
  · have : i = 8 := by omega
    subst this
    (refine zG ?_)
    exact ⟨.arr 64 (bys (outer p v w)), H, conc_arr (fun q hq => by simp only [Nat.zero_add, bys]; rw [rowsTo_all (n := 8) (N := 64) (fun q h1 h2 => by omega) hq]), by exact zD, rfl, rfl⟩
end Go.Proofs.YtmkegkpabifpfaaGreat

/- Contracts of the program's functions. -/
namespace Go.Proofs.YtmkegkpabifpfaaGreat
open Go.V
set_option linter.unusedSimpArgs false
set_option linter.unusedVariables false
set_option maxHeartbeats 4000000
/-- (*impl.Algebra).isShaped -/
def ir96 : Cd := (.seq (.reg [⟨some 2,none,.mov (.c (.bool false))⟩]) (.seq (.drw true [25] [⟨some 3,none,.mov (.t 0)⟩,⟨some 4,none,.ck (.t 3)⟩,⟨some 5,none,.fa 0 (.t 4)⟩,⟨some 6,none,.ld none (.t 5)⟩,⟨some 7,none,.mov (.t 0)⟩,⟨some 8,none,.ck (.t 7)⟩,⟨some 9,none,.fa 1 (.t 8)⟩,⟨some 10,none,.ld none (.t 9)⟩,⟨some 11,none,.mov (.t 0)⟩,⟨some 12,none,.ck (.t 11)⟩,⟨some 13,none,.fa 2 (.t 12)⟩,⟨some 14,none,.ld (some 8) (.t 13)⟩,⟨some 15,none,.call 100 [(.t 6),(.t 10),(.t 14)]⟩,⟨some 16,none,.mov (.t 15)⟩,⟨some 17,(some (16,true)),.mov (.t 0)⟩,⟨some 18,(some (16,true)),.ck (.t 17)⟩,⟨some 19,(some (16,true)),.fa 0 (.t 18)⟩,⟨some 20,(some (16,true)),.ld none (.t 19)⟩,⟨some 21,(some (16,true)),.mov (.t 0)⟩,⟨some 22,(some (16,true)),.ck (.t 21)⟩,⟨some 23,(some (16,true)),.fa 1 (.t 22)⟩,⟨some 24,(some (16,true)),.ld none (.t 23)⟩,⟨some 25,(some (16,true)),.mov (.t 0)⟩,⟨some 26,(some (16,true)),.ck (.t 25)⟩,⟨some 27,(some (16,true)),.fa 10 (.t 26)⟩,⟨some 28,(some (16,true)),.call 120 [(.t 20),(.t 24),(.t 27)]⟩,⟨some 29,none,.pick (.t 16) (.t 28) (.c (.bool false))⟩,⟨some 2,none,.mov (.t 29)⟩]) .ret))
set_option maxRecDepth 100000 in
theorem tr96 : trFn Tryz.prog Tryz.f96 = some (30, ir96, [.tmp 2]) := by kernel_rfl
theorem Algebra_isShaped (p n' : Int) (u m : Nat → Int) (b : Nat) (K : Blk) (H : Hp) (n : Nat) (hb : H.get b = some K) (hsz : K.size = 522) (h0 : K.c 0 = .int .i64 p) (h1 : K.c 1 = .int .i64 n')
    (hU : ∀ q, q < 8 → K.c (2 + q) = .int .u8 (u q)) (hK : ∀ q, q < 512 → K.c (10 + q) = .int .u8 (m q)) (hu : isBy 8 u) (hm : isBy 512 m) :
    FnS Tryz.prog 96 [ptr b 0] H n (fun v H' _ => v = bl (tb (shp p n' u m)) ∧ H' = H) := by
  refine FnS.of_body Tryz.func96 tr96 (by simp) (fun hf => ?_)
  dsimp only [argEnv]
  unfold ir96
  have hbn := getlt hf hb
  (refine zG ?_)
  refine LS.callQ (bl (tb (sz p n' ∧ isVec p n' u))) rfl (fun n' hn' => impl_IsVector _ _ u _ _ hu) ?_
  (refine zG ?_)
  refine RS.sp (t := 16) rfl (fun h2 => ?_) (fun h2 => ?_) <;> (try simp only [tb_eq, tb_eqF, decide_eq_true_eq, decide_eq_false_iff_not, beq_iff_eq, bne_iff_ne, ne_eq, Decidable.not_not, beq_eq_false_iff_ne, bne_eq_false_iff_eq, Bool.not_eq_true', Bool.not_eq_false', Bool.not_eq_eq_eq_not, Bool.not_true, Bool.not_false] at h2)
  · (repeat first|refine zG ?_|(refine LS.nilO ?_;intro nq hnq hltq;try refine zU ?_)|(refine MS.new ?_;intro bq hbq hbqf;try refine zU ?_)|(refine MS.nil ?_;intro nq hnq hltq;have hlq:=hltq _ _ (Hp.get_eq _ _ _);clear hltq;try refine zU ?_)|(refine LS.nilQ ?_;try with_reducible intro nq hnq;try refine zU ?_))
    refine RS.call rfl ((impl_isTable p n' m b 10 K _ _ hb (by omega) hK hm).mono ?_)
    rintro r H' n3 hn3 ⟨rfl, rfl⟩
    (refine zG ?_)
    exact ⟨_, _, rfl, by exact zD, congrArg bl (tb_iff ⟨fun h => ⟨h.1, h2.2, h.2⟩, fun h => ⟨h.1, h.2.2⟩⟩), rfl⟩
  · (repeat first|refine zG ?_|(refine LS.nilO ?_;intro nq hnq hltq;try refine zU ?_)|(refine MS.new ?_;intro bq hbq hbqf;try refine zU ?_)|(refine MS.nil ?_;intro nq hnq hltq;have hlq:=hltq _ _ (Hp.get_eq _ _ _);clear hltq;try refine zU ?_)|(refine LS.nilQ ?_;try with_reducible intro nq hnq;try refine zU ?_))
    exact ⟨_, _, rfl, by exact zD, by rw [tb_false (fun h => h2 ⟨h.1, h.2.1⟩)], rfl⟩
/-- (*impl.Coalgebra).isShaped -/
def ir109 : Cd := (.seq (.reg [⟨some 2,none,.mov (.c (.bool false))⟩]) (.seq (.drw true [25] [⟨some 3,none,.mov (.t 0)⟩,⟨some 4,none,.ck (.t 3)⟩,⟨some 5,none,.fa 0 (.t 4)⟩,⟨some 6,none,.ld none (.t 5)⟩,⟨some 7,none,.mov (.t 0)⟩,⟨some 8,none,.ck (.t 7)⟩,⟨some 9,none,.fa 1 (.t 8)⟩,⟨some 10,none,.ld none (.t 9)⟩,⟨some 11,none,.mov (.t 0)⟩,⟨some 12,none,.ck (.t 11)⟩,⟨some 13,none,.fa 2 (.t 12)⟩,⟨some 14,none,.ld (some 8) (.t 13)⟩,⟨some 15,none,.call 100 [(.t 6),(.t 10),(.t 14)]⟩,⟨some 16,none,.mov (.t 15)⟩,⟨some 17,(some (16,true)),.mov (.t 0)⟩,⟨some 18,(some (16,true)),.ck (.t 17)⟩,⟨some 19,(some (16,true)),.fa 0 (.t 18)⟩,⟨some 20,(some (16,true)),.ld none (.t 19)⟩,⟨some 21,(some (16,true)),.mov (.t 0)⟩,⟨some 22,(some (16,true)),.ck (.t 21)⟩,⟨some 23,(some (16,true)),.fa 1 (.t 22)⟩,⟨some 24,(some (16,true)),.ld none (.t 23)⟩,⟨some 25,(some (16,true)),.mov (.t 0)⟩,⟨some 26,(some (16,true)),.ck (.t 25)⟩,⟨some 27,(some (16,true)),.fa 10 (.t 26)⟩,⟨some 28,(some (16,true)),.call 120 [(.t 20),(.t 24),(.t 27)]⟩,⟨some 29,none,.pick (.t 16) (.t 28) (.c (.bool false))⟩,⟨some 2,none,.mov (.t 29)⟩]) .ret))
set_option maxRecDepth 100000 in
theorem tr109 : trFn Tryz.prog Tryz.f109 = some (30, ir109, [.tmp 2]) := by kernel_rfl
theorem Coalgebra_isShaped (p n' : Int) (u m : Nat → Int) (b : Nat) (K : Blk) (H : Hp) (n : Nat) (hb : H.get b = some K) (hsz : K.size = 522) (h0 : K.c 0 = .int .i64 p) (h1 : K.c 1 = .int .i64 n')
    (hU : ∀ q, q < 8 → K.c (2 + q) = .int .u8 (u q)) (hK : ∀ q, q < 512 → K.c (10 + q) = .int .u8 (m q)) (hu : isBy 8 u) (hm : isBy 512 m) :
    FnS Tryz.prog 109 [ptr b 0] H n (fun v H' _ => v = bl (tb (shp p n' u m)) ∧ H' = H) := by
  refine FnS.of_body Tryz.func109 tr109 (by simp) (fun hf => ?_)
  dsimp only [argEnv]
  unfold ir109
  have hbn := getlt hf hb
  (refine zG ?_)
  refine LS.callQ (bl (tb (sz p n' ∧ isVec p n' u))) rfl (fun n' hn' => impl_IsVector _ _ u _ _ hu) ?_
  (refine zG ?_)
  refine RS.sp (t := 16) rfl (fun h2 => ?_) (fun h2 => ?_) <;> (try simp only [tb_eq, tb_eqF, decide_eq_true_eq, decide_eq_false_iff_not, beq_iff_eq, bne_iff_ne, ne_eq, Decidable.not_not, beq_eq_false_iff_ne, bne_eq_false_iff_eq, Bool.not_eq_true', Bool.not_eq_false', Bool.not_eq_eq_eq_not, Bool.not_true, Bool.not_false] at h2)
  · (repeat first|refine zG ?_|(refine LS.nilO ?_;intro nq hnq hltq;try refine zU ?_)|(refine MS.new ?_;intro bq hbq hbqf;try refine zU ?_)|(refine MS.nil ?_;intro nq hnq hltq;have hlq:=hltq _ _ (Hp.get_eq _ _ _);clear hltq;try refine zU ?_)|(refine LS.nilQ ?_;try with_reducible intro nq hnq;try refine zU ?_))
    refine RS.call rfl ((impl_isTable p n' m b 10 K _ _ hb (by omega) hK hm).mono ?_)
    rintro r H' n3 hn3 ⟨rfl, rfl⟩
    (refine zG ?_)
    exact ⟨_, _, rfl, by exact zD, congrArg bl (tb_iff ⟨fun h => ⟨h.1, h2.2, h.2⟩, fun h => ⟨h.1, h.2.2⟩⟩), rfl⟩
  · (repeat first|refine zG ?_|(refine LS.nilO ?_;intro nq hnq hltq;try refine zU ?_)|(refine MS.new ?_;intro bq hbq hbqf;try refine zU ?_)|(refine MS.nil ?_;intro nq hnq hltq;have hlq:=hltq _ _ (Hp.get_eq _ _ _);clear hltq;try refine zU ?_)|(refine LS.nilQ ?_;try with_reducible intro nq hnq;try refine zU ?_))
    exact ⟨_, _, rfl, by exact zD, by rw [tb_false (fun h => h2 ⟨h.1, h.2.1⟩)], rfl⟩
/-- spec.l03Folded -/
def ir85 : Cd := (.seq (.reg [⟨some 4,none,.box 40 (.t 0)⟩,⟨some 6,none,.box 36 (.t 2)⟩,⟨some 8,none,.new 34 [(8,(.int .u8 0))]⟩]) (.seq (.reg [⟨some 15,none,.build 8 [(8,(.int .u8 0))] []⟩,⟨some 16,none,.ld (some 1106) (.t 4)⟩,⟨some 17,none,.call 60 [(.t 16)]⟩,⟨some 9,none,.new 34 [(8,(.int .u8 0))]⟩,⟨some 10,none,.new 43 [(2,(.int .i64 0)),(520,(.int .u8 0))]⟩,⟨none,none,.st 8 (.t 9) (.t 15)⟩,⟨none,none,.st 522 (.t 10) (.t 17)⟩]) (.seq (.seq (.reg [⟨some 11,none,.mov (.c (.int .i64 0))⟩]) (.block 0 (.loop (.seq (.seq (.reg [⟨some 18,none,.mov (.t 11)⟩,⟨some 19,none,.fa 1 (.t 4)⟩,⟨some 20,none,.ld none (.t 19)⟩,⟨some 21,none,.bin .lss (.t 18) (.t 20)⟩]) (.cond (.t 21) .skip (.exit 0))) (.seq (.block 1 (.seq (.reg [⟨some 12,none,.mov (.c (.int .i64 0))⟩]) (.block 2 (.loop (.seq (.seq (.reg [⟨some 24,none,.mov (.t 12)⟩,⟨some 25,none,.fa 1 (.t 4)⟩,⟨some 26,none,.ld none (.t 25)⟩,⟨some 27,none,.bin .lss (.t 24) (.t 26)⟩]) (.cond (.t 27) .skip (.exit 2))) (.seq (.block 3 (.seq (.reg [⟨some 30,none,.mov (.t 1)⟩,⟨some 31,none,.mov (.t 11)⟩,⟨some 32,none,.mov (.t 12)⟩,⟨some 33,none,.fa 530 (.t 4)⟩,⟨some 34,none,.ia 8 64 (.t 33) (.t 30)⟩,⟨some 35,none,.ia 8 8 (.t 34) (.t 31)⟩,⟨some 36,none,.ia 8 1 (.t 35) (.t 32)⟩,⟨some 37,none,.ld none (.t 36)⟩,⟨some 38,none,.cv .i64 (.t 37)⟩,⟨some 13,none,.mov (.t 38)⟩]) (.seq (.reg [⟨some 39,none,.mov (.t 13)⟩,⟨some 40,none,.bin .neq (.t 39) (.c (.int .i64 0))⟩]) (.cond (.t 40) (.seq (.mix [⟨some 41,none,.ld (some 522) (.t 10)⟩,⟨some 42,none,.mov (.t 11)⟩,⟨some 43,none,.ia 8 8 (.t 6) (.t 42)⟩,⟨some 44,none,.ld (some 8) (.t 43)⟩,⟨some 45,none,.mov (.t 12)⟩,⟨some 46,none,.call 40 [(.t 45)]⟩,⟨some 47,none,.call 27 [(.t 41),(.t 44),(.t 46)]⟩] [⟨some 14,none,.new 34 [(8,(.int .u8 0))]⟩,⟨none,none,.st 8 (.t 14) (.t 47)⟩]) (.seq (.seq (.reg [⟨some 48,none,.mov (.t 3)⟩]) (.cond (.t 48) (.drwo true [6,7] [0,1,3,4,5,2,6,7] [⟨some 49,none,.ld (some 522) (.t 10)⟩,⟨some 50,none,.mov (.t 11)⟩,⟨some 51,none,.call 40 [(.t 50)]⟩,⟨some 52,none,.mov (.t 12)⟩,⟨some 53,none,.ia 8 8 (.t 6) (.t 52)⟩,⟨some 54,none,.ld (some 8) (.t 53)⟩,⟨some 55,none,.call 27 [(.t 49),(.t 51),(.t 54)]⟩,⟨none,none,.st 8 (.t 14) (.t 55)⟩]) .skip)) (.reg [⟨some 56,none,.fa 0 (.t 4)⟩,⟨some 57,none,.ld none (.t 56)⟩,⟨some 58,none,.ld (some 8) (.t 9)⟩,⟨some 59,none,.ld (some 8) (.t 14)⟩,⟨some 60,none,.mov (.t 13)⟩,⟨some 61,none,.call 26 [(.t 57),(.t 58),(.t 59),(.t 60)]⟩,⟨none,none,.st 8 (.t 9) (.t 61)⟩]))) .skip)))) (.reg [⟨some 28,none,.mov (.t 12)⟩,⟨some 29,none,.bin .add (.t 28) (.c (.int .i64 1))⟩,⟨some 12,none,.mov (.t 29)⟩]))))))) (.reg [⟨some 22,none,.mov (.t 11)⟩,⟨some 23,none,.bin .add (.t 22) (.c (.int .i64 1))⟩,⟨some 11,none,.mov (.t 23)⟩])))))) (.seq (.reg [⟨some 62,none,.ld (some 8) (.t 9)⟩,⟨none,none,.st 8 (.t 8) (.t 62)⟩]) .ret))))
set_option maxRecDepth 100000 in
theorem tr85 : trFn Tryz.prog Tryz.f85 = some (63, ir85, [.cell (some 8) 8]) := by kernel_rfl
theorem spec_l03Folded (h : HT) (a : Nat) (i : Nat) (bh : Bool) (g : Nat → Nat → Int) (hg : g = if bh = true then g7 h.p h.m h.s a else g6 h.p h.m h.s a) (hi : i < a) (K : Nat → SV) (H : Hp) (n : Nat) (hS : HS h a) (hK : h.At K) (hB : h.By) :
    FnS Tryz.prog 85 [.arr 1106 K, i64 i, .arr 64 (bys h.s), bl bh] H n (fun r H' _ => r = .arr 8 (bys (fold h.p h.c i g 64)) ∧ H' = H) := by
  have hp := hS.hp
  have ha := hS.ha
  have hk0 := hK.p
  have hk1 := hK.n
  rw [hS.hn] at hk1
  have hk5 := hK.c
  have hk6 := hK.m
  refine FnS.of_body Tryz.func85 tr85 (by simp) (fun hf => ?_)
  dsimp only [argEnv]
  unfold ir85
  (refine zG ?_)
  refine RS.call rfl ((FnS.args (concs_cons (conc_arr (fun q hq => rfl)) rfl) (spec_l03Algebra K h _ _ hK)).mono ?_)
  rintro r H n2 hn2 ⟨rfl, rfl⟩
  (refine zG ?_)
  refine CS.iter a (fun j => [(11, i64 j), (4, ptr n 0), (6, ptr (n + 1) 0), (8, ptr (n + 2) 0), (9, ptr n2 0), (10, ptr (n2 + 1) 0), (1, i64 i), (3, bl bh)])
    (fun j => (n2 + 1, ⟨522, K, 43⟩) :: (n2, ⟨8, bys (fold h.p h.c i g (8 * j)), 34⟩) :: (n + 2, ⟨8, bys (fun _ => 0), 34⟩) :: (n + 1, ⟨64, bys h.s, 36⟩) :: (n, ⟨1106, K, 40⟩) :: H) (fun _ => True) (by (repeat first | exact trivial | refine And.intro rfl ?_))
    (Drops.keepc rfl rfl (fun _ _ => rfl) (Drops.keepc rfl rfl (fun _ _ => by rw [show fold h.p h.c i g (8 * 0) = fun _ => 0 from fold_zero _ _ _ _]; rfl) (Drops.keepc rfl rfl (fun _ _ => rfl) (Drops.refl _ _)))) trivial ?_
  intro j n3 hj hn _
  (refine zG ?_)
  refine zI ?_ ?_<;>intro h2
  · (refine zG ?_)
    refine CS.iter a (fun k => [(12, i64 k), (11, i64 j), (4, ptr n 0), (6, ptr (n + 1) 0), (8, ptr (n + 2) 0), (9, ptr n2 0), (10, ptr (n2 + 1) 0), (1, i64 i), (3, bl bh)])
      (fun k => (n2 + 1, ⟨522, K, 43⟩) :: (n2, ⟨8, bys (fold h.p h.c i g (8 * j + k)), 34⟩) :: (n + 2, ⟨8, bys (fun _ => 0), 34⟩) :: (n + 1, ⟨64, bys h.s, 36⟩) :: (n, ⟨1106, K, 40⟩) :: H) (fun _ => True) (by (repeat first | exact trivial | refine And.intro rfl ?_))
      (Drops.refl _ _) trivial ?_
    intro k n4 hk hn4 _
    (refine zG ?_)
    refine zI ?_ ?_<;>intro h3
    · have hct := hB.c (64 * i + 8 * j + k) (by omega)
      have ect : 64 * i + 8 * j + k = 64 * i + (8 * j + k) := by omega
      (refine zG ?_)
      refine zI ?_ ?_<;>intro h4
      · (refine zG ?_)
        refine LS.callQ (.arr 8 (bys (bas k))) rfl (fun n' hn' => spec_l01Basis k _ _ (by omega)) ?_
        (repeat first|refine zG ?_|(refine LS.nilO ?_;intro nq hnq hltq;try refine zU ?_)|(refine MS.new ?_;intro bq hbq hbqf;try refine zU ?_)|(refine MS.nil ?_;intro nq hnq hltq;have hlq:=hltq _ _ (Hp.get_eq _ _ _);clear hltq;try refine zU ?_)|(refine LS.nilQ ?_;try with_reducible intro nq hnq;try refine zU ?_))
        refine LS.callQ (.arr 8 (bys (g6 h.p h.m h.s a (8 * j + k)))) rfl (fun n' hn' => by
          unfold g6; rw [show (8 * j + k) / 8 = j by omega, show (8 * j + k) % 8 = k by omega]
          exact spec_l01Times h.p a h.m (fun y => h.s (8 * j + y)) (bas k) K _ _ hp ha hk0 hk1 hk6 hB.m (hB.rows (by omega)) (bas_by _ _)) ?_
        (repeat first|refine zG ?_|(refine LS.nilO ?_;intro nq hnq hltq;try refine zU ?_)|(refine MS.new ?_;intro bq hbq hbqf;try refine zU ?_)|(refine MS.nil ?_;intro nq hnq hltq;have hlq:=hltq _ _ (Hp.get_eq _ _ _);clear hltq;try refine zU ?_)|(refine LS.nilQ ?_;try with_reducible intro nq hnq;try refine zU ?_))
        cases bh
        · have hg6 : g = g6 h.p h.m h.s a := by rw [hg]; rfl
          (refine zG ?_)
          refine RS.call rfl ((spec_l01Add h.p (h.c (64 * i + 8 * j + k)) (fold h.p h.c i g (8 * j + k)) (g6 h.p h.m h.s a (8 * j + k)) _ _ hp ((fold_res hp.1 _ _ _ _ 8).by hp.2) ((g6_res hp.1 _ _ _ _ 8).by hp.2) (by omega)).mono ?_)
          rintro r H5 n5 hn5 ⟨rfl, rfl⟩
          (refine zG ?_)
          exact ⟨by omega, by (repeat first | exact trivial | refine And.intro rfl ?_), Drops.drop (by omega) (by simp (disch := omega) only [Hp.get_ne]; exact hf _ (by omega)) (Drops.keepc rfl rfl (fun _ _ => rfl) (Drops.keepc rfl rfl (fun q hq => by rw [ect, ← hg6, fold_step]; rfl) (Drops.refl _ _))), trivial⟩
        · have hg7 : g = g7 h.p h.m h.s a := by rw [hg]; rfl
          (refine zG ?_)
          refine CS.tailLo _ (List.Mem.head _) ?_; dsimp only [List.take, List.drop]
          (refine zG ?_)
          refine LS.callQ (.arr 8 (bys (bas j))) rfl (fun n' hn' => spec_l01Basis j _ _ (by omega)) ?_
          (repeat first|refine zG ?_|(refine LS.nilO ?_;intro nq hnq hltq;try refine zU ?_)|(refine MS.new ?_;intro bq hbq hbqf;try refine zU ?_)|(refine MS.nil ?_;intro nq hnq hltq;have hlq:=hltq _ _ (Hp.get_eq _ _ _);clear hltq;try refine zU ?_)|(refine LS.nilQ ?_;try with_reducible intro nq hnq;try refine zU ?_))
          refine RS.call rfl ((spec_l01Times h.p a h.m (bas j) (fun y => h.s (8 * k + y)) K _ _ hp ha hk0 hk1 hk6 hB.m (bas_by _ _) (hB.rows (by omega))).mono ?_)
          rintro r H5 n5 hn5 ⟨rfl, rfl⟩
          have e7 : pr h.p h.m (bas j) (fun y => h.s (8 * k + y)) a = g7 h.p h.m h.s a (8 * j + k) := by
            unfold g7; rw [show (8 * j + k) / 8 = j by omega, show (8 * j + k) % 8 = k by omega]
          rw [e7]
          (refine zG ?_)
          refine RS.call rfl ((spec_l01Add h.p (h.c (64 * i + 8 * j + k)) (fold h.p h.c i g (8 * j + k)) (g7 h.p h.m h.s a (8 * j + k)) _ _ hp ((fold_res hp.1 _ _ _ _ 8).by hp.2) ((g7_res hp.1 _ _ _ _ 8).by hp.2) (by omega)).mono ?_)
          rintro r H6 n6 hn6 ⟨rfl, rfl⟩
          (refine zG ?_)
          exact ⟨by omega, by (repeat first | exact trivial | refine And.intro rfl ?_), Drops.drop (by omega) (by simp (disch := omega) only [Hp.get_ne]; exact hf _ (by omega)) (Drops.keepc rfl rfl (fun _ _ => rfl) (Drops.keepc rfl rfl (fun q hq => by rw [ect, ← hg7, fold_step]; rfl) (Drops.refl _ _))), trivial⟩
      · (refine zG ?_)
        exact ⟨by omega, by (repeat first | exact trivial | refine And.intro rfl ?_), Drops.keepc rfl rfl (fun _ _ => rfl) (Drops.keepc rfl rfl (fun q hq => by
          rw [ect] at h4; rw [show 8 * j + (k + 1) = 8 * j + k + 1 from rfl, fold_skip h4]) (Drops.refl _ _)), trivial⟩
    · have : k = a := by omega
      subst this
      (refine zG ?_)
      exact ⟨by omega, by (repeat first | exact trivial | refine And.intro rfl ?_), Drops.keepc rfl rfl (fun _ _ => rfl) (Drops.keepc rfl rfl (fun q hq => by rw [fold_row hS.cm (by omega) ha (by omega)]; rfl) (Drops.refl _ _)), trivial⟩
  · have : j = a := by omega
    subst this
    (refine zG ?_)
    exact ⟨.arr 8 (bys (fold h.p h.c i g 64)), H, conc_arr (fun q hq => by simp only [Nat.zero_add]; rw [← fold_end hS.cm (by omega) ha]; rfl), by exact zD, rfl, rfl⟩
end Go.Proofs.YtmkegkpabifpfaaGreat
