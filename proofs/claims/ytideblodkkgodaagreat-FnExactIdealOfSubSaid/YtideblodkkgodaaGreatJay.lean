/- Contracts of the program's functions. -/
import Derived.Test.YtideblodkkgodaaGreatJam
import Derived.Test.YtideblodkkgodaaGreatJal
import Derived.Test.YtideblodkkgodaaGreatJau
import Derived.Test.YtideblodkkgodaaGreatJav
import Derived.Test.YtideblodkkgodaaGreatJaw
set_option linter.unusedSectionVars false
set_option linter.unusedVariables false
set_option linter.unusedSimpArgs false

namespace Go.Proofs.YtideblodkkgodaaGreat

open Go.V

variable [BW]

set_option linter.unusedSimpArgs false

set_option linter.unusedVariables false

set_option maxHeartbeats 4000000

/-- spec.l02Shape -/
def ir133 : Cd := (.seq (.reg [⟨some 1,none,.box 122 (.t 0)⟩,⟨some 2,none,.mov (.c (.bool false))⟩]) (.seq (.reg [⟨some 3,none,.fa 0 (.t 1)⟩,⟨some 4,none,.ld none (.t 3)⟩,⟨some 5,none,.fa 1 (.t 1)⟩,⟨some 6,none,.ld none (.t 5)⟩,⟨some 7,none,.call 108 [(.t 4),(.t 6)]⟩,⟨some 8,none,.mov (.t 7)⟩,⟨some 9,(some (8,true)),.fa 0 (.t 1)⟩,⟨some 10,(some (8,true)),.ld none (.t 9)⟩,⟨some 11,(some (8,true)),.fa 1 (.t 1)⟩,⟨some 12,(some (8,true)),.ld none (.t 11)⟩,⟨some 13,(some (8,true)),.fa 2 (.t 1)⟩,⟨some 14,(some (8,true)),.ld (some 8) (.t 13)⟩,⟨some 15,(some (8,true)),.call 36 [(.t 10),(.t 12),(.t 14)]⟩,⟨some 16,none,.pick (.t 8) (.t 15) (.c (.bool false))⟩,⟨some 17,none,.mov (.t 16)⟩,⟨some 18,(some (17,true)),.fa 0 (.t 1)⟩,⟨some 19,(some (17,true)),.ld none (.t 18)⟩,⟨some 20,(some (17,true)),.fa 1 (.t 1)⟩,⟨some 21,(some (17,true)),.ld none (.t 20)⟩,⟨some 22,(some (17,true)),.fa 10 (.t 1)⟩,⟨some 23,(some (17,true)),.ld (some 512) (.t 22)⟩,⟨some 24,(some (17,true)),.call 76 [(.t 19),(.t 21),(.t 23)]⟩,⟨some 25,none,.pick (.t 17) (.t 24) (.c (.bool false))⟩,⟨some 2,none,.mov (.t 25)⟩]) .ret))

set_option maxRecDepth 100000 in
theorem tr133 : trFn Tryz.prog Tryz.f133 = some (26, ir133, [.tmp 2]) := by kernel_rfl

theorem spec_l02Shape (p n' : Int) (u m : Nat → Int) (K : Nat → SV) (H : Hp) (n : Nat) (h0 : K 0 = .int .i64 p) (h1 : K 1 = .int .i64 n')
    (hU : ∀ q, q < 8 → K (2 + q) = .int .u8 (u q)) (hK : ∀ q, q < 512 → K (10 + q) = .int .u8 (m q)) (hu : isBy 8 u) (hm : isBy 512 m) :
    FnS Tryz.prog 133 [.arr 522 K] H n (fun v H' _ => v = bl (tb (shp p n' u m)) ∧ H' = H) := by
  refine FnS.of_body Tryz.func133 tr133 (by simp) (fun hf => ?_)
  dsimp only [argEnv]
  unfold ir133
  (refine zG ?_)
  refine RS.call rfl ((spec_l01Sizes _ _ _ _).mono ?_)
  rintro r H n2 hn2 ⟨rfl, rfl⟩
  (refine zG ?_)
  refine RS.sp (t := 8) rfl (fun h2 => ?_) (fun h2 => ?_) <;> (try simp only [tb_eq, tb_eqF, decide_eq_true_eq, decide_eq_false_iff_not, beq_iff_eq, bne_iff_ne, ne_eq, Decidable.not_not, beq_eq_false_iff_ne, bne_eq_false_iff_eq, Bool.not_eq_true', Bool.not_eq_false', Bool.not_eq_eq_eq_not, Bool.not_true, Bool.not_false] at h2)
  · (refine zG ?_)
    refine RS.call rfl ((spec_l01Vector p n' u _ _ hu).mono ?_)
    rintro r H n3 hn3 ⟨rfl, rfl⟩
    (refine zG ?_)
    refine RS.sp (t := 17) rfl (fun h3 => ?_) (fun h3 => ?_) <;> (try simp only [tb_eq, tb_eqF, decide_eq_true_eq, decide_eq_false_iff_not, beq_iff_eq, bne_iff_ne, ne_eq, Decidable.not_not, beq_eq_false_iff_ne, bne_eq_false_iff_eq, Bool.not_eq_true', Bool.not_eq_false', Bool.not_eq_eq_eq_not, Bool.not_true, Bool.not_false] at h3)
    · (refine zG ?_)
      refine RS.call rfl ((spec_l01Table p n' m _ _ hm).mono ?_)
      rintro r H n4 hn4 ⟨rfl, rfl⟩
      (refine zG ?_)
      exact ⟨_, H, rfl, by exact zD, congrArg bl (tb_iff ⟨fun h => ⟨h2, h3, h⟩, fun h => h.2.2⟩), rfl⟩
    · (refine zG ?_)
      exact ⟨_, H, rfl, by exact zD, by rw [tb_false (fun h => h3 h.2.1)], rfl⟩
  · (refine zG ?_)
    exact ⟨_, H, rfl, by exact zD, by rw [tb_false (fun h => h2 h.1)], rfl⟩

/-- (*impl.Hopf).folded$1 -/
def ir141 : Cd := (.seq (.reg [⟨some 10,none,.ld none (.t 3)⟩]) (.cond (.t 10) (.drwo true [12] [0,1,2,3,4,5,6,7,8,9,10,11,12] [⟨some 11,none,.ld (some 2) (.t 4)⟩,⟨some 12,none,.mov (.t 2)⟩,⟨some 13,none,.ld none (.t 6)⟩,⟨some 14,none,.ld none (.t 6)⟩,⟨some 15,none,.mov (.t 0)⟩,⟨some 16,none,.ck (.t 14)⟩,⟨some 17,none,.fa 1042 (.t 16)⟩,⟨some 18,none,.ia 8 8 (.t 17) (.t 15)⟩,⟨some 19,none,.ld (some 8) (.t 18)⟩,⟨some 20,none,.mov (.t 1)⟩,⟨some 21,none,.call 33 [(.t 20)]⟩,⟨some 22,none,.call 32 [(.t 13),(.t 19),(.t 21)]⟩,⟨some 23,none,.call 30 [(.t 11),(.t 5),(.t 12),(.t 22)]⟩]) (.drwo true [12] [0,1,2,3,5,6,7,8,9,10,4,11,12] [⟨some 24,none,.ld (some 2) (.t 4)⟩,⟨some 25,none,.mov (.t 2)⟩,⟨some 26,none,.ld none (.t 6)⟩,⟨some 27,none,.mov (.t 0)⟩,⟨some 28,none,.call 33 [(.t 27)]⟩,⟨some 29,none,.ld none (.t 6)⟩,⟨some 30,none,.mov (.t 1)⟩,⟨some 31,none,.ck (.t 29)⟩,⟨some 32,none,.fa 1042 (.t 31)⟩,⟨some 33,none,.ia 8 8 (.t 32) (.t 30)⟩,⟨some 34,none,.ld (some 8) (.t 33)⟩,⟨some 35,none,.call 32 [(.t 26),(.t 28),(.t 34)]⟩,⟨some 36,none,.call 30 [(.t 24),(.t 5),(.t 25),(.t 35)]⟩])))

set_option maxRecDepth 100000 in
theorem tr141 : trFn Tryz.prog Tryz.f141 = some (37, ir141, []) := by kernel_rfl

theorem Hopf_folded_1 (h : HT) (a : Nat) (i t j k : Nat) (fp : Bool) (g : Nat → Nat → Int) (hg : g = if fp = true then g6 h.p h.m h.s a else g7 h.p h.m h.s a) (hi : i < 8) (ht : t = 8 * j + k) (hj : j < 8) (hk : k < 8)
    (b bq bf bo bh : Nat) (K Kq Kh : Blk) (H : Hp) (n : Nat) (hS : HS h a) (hb : H.get b = some K) (hsz : K.size = 1106) (hK : h.At K.c) (hB : h.By)
    (gq : H.get bq = some Kq) (sq : Kq.size = 1) (cq : Kq.c 0 = .bool fp) (gf : H.get bf = some ⟨2, fldC h.p a, 62⟩)
    (go : H.get bo = some ⟨8, bys (fold h.p h.c i g t), 32⟩) (gh : H.get bh = some Kh) (sh : Kh.size = 1) (ch : Kh.c 0 = .ptr b 0) :
    FnS Tryz.prog 141 [i64 j, i64 k, i64 (h.c (64 * i + t)), ptr bq 0, ptr bf 0, ptr bo 0, ptr bh 0] H n (fun _ H' _ => H' = H.set bo (bys (fold h.p h.c i g (t + 1)))) := by
  have hp := hS.hp
  have ha := hS.ha
  have hk5 := hK.s
  have hct := hB.c (64 * i + t) (by omega)
  refine FnS.of_body Tryz.func141 tr141 (by simp) (fun hf => ?_)
  dsimp only [argEnv]
  unfold ir141
  have hbn := getlt hf hb
  cases fp
  · have hg7 : g = g7 h.p h.m h.s a := by rw [hg]; rfl
    (refine zG ?_)
    refine CS.tailLo _ (List.Mem.head _) ?_; dsimp only [List.take, List.drop]
    (refine zG ?_)
    refine LS.callQ (.arr 8 (bys (bas j))) rfl (fun n' hn' => impl_basis j _ _ (by omega)) ?_
    (refine zG ?_)
    refine LS.callQ (.arr 8 (bys (g t))) rfl (fun n' hn' => by
      rw [hg7]; unfold g7; rw [ht, show (8 * j + k) / 8 = j by omega, show (8 * j + k) % 8 = k by omega]
      exact Hopf_product h a (bas j) (fun y => h.s (8 * k + y)) b K _ _ hS (by exact zH) hsz hK hB (bas_by _ _) (hB.rows (by omega))) ?_
    (repeat first|refine zG ?_|(refine LS.nilO ?_;intro nq hnq hltq;try refine zU ?_)|(refine MS.new ?_;intro bq hbq hbqf;try refine zU ?_)|(refine MS.nil ?_;intro nq hnq hltq;have hlq:=hltq _ _ (Hp.get_eq _ _ _);clear hltq;try refine zU ?_)|(refine LS.nilQ ?_;try with_reducible intro nq hnq;try refine zU ?_))
    refine RS.call rfl ((field_plus h.p a (h.c (64 * i + t)) (fold h.p h.c i g t) (g t) bo 0 _ _ _ hp (by exact zH) (by simp) (fun _ _ => by rw [Nat.zero_add]; rfl) (fold_res hp.1 _ _ _ _ _) (by rw [hg7]; exact (g7_res hp.1 _ _ _ _ _).by hp.2) (by omega)).mono ?_)
    rintro r H' n5 hn5 ⟨rfl, rfl⟩
    (refine zG ?_)
    exact ⟨_, H.set bo (bys (fold h.p h.c i g (t + 1))), rfl, Drops.setc go (fun q hq => (splice_all _ _ 8 q hq).trans (by rw [fold_step])), rfl⟩
  · have hg6 : g = g6 h.p h.m h.s a := by rw [hg]; rfl
    (refine zG ?_)
    refine CS.tailLo _ (List.Mem.head _) ?_; dsimp only [List.take, List.drop]
    (refine zG ?_)
    refine LS.callQ (.arr 8 (bys (bas k))) rfl (fun n' hn' => impl_basis k _ _ (by omega)) ?_
    (repeat first|refine zG ?_|(refine LS.nilO ?_;intro nq hnq hltq;try refine zU ?_)|(refine MS.new ?_;intro bq hbq hbqf;try refine zU ?_)|(refine MS.nil ?_;intro nq hnq hltq;have hlq:=hltq _ _ (Hp.get_eq _ _ _);clear hltq;try refine zU ?_)|(refine LS.nilQ ?_;try with_reducible intro nq hnq;try refine zU ?_))
    refine LS.callQ (.arr 8 (bys (g t))) rfl (fun n' hn' => by
      rw [hg6]; unfold g6; rw [ht, show (8 * j + k) / 8 = j by omega, show (8 * j + k) % 8 = k by omega]
      exact Hopf_product h a (fun y => h.s (8 * j + y)) (bas k) b K _ _ hS (by exact zH) hsz hK hB (hB.rows (by omega)) (bas_by _ _)) ?_
    (repeat first|refine zG ?_|(refine LS.nilO ?_;intro nq hnq hltq;try refine zU ?_)|(refine MS.new ?_;intro bq hbq hbqf;try refine zU ?_)|(refine MS.nil ?_;intro nq hnq hltq;have hlq:=hltq _ _ (Hp.get_eq _ _ _);clear hltq;try refine zU ?_)|(refine LS.nilQ ?_;try with_reducible intro nq hnq;try refine zU ?_))
    refine RS.call rfl ((field_plus h.p a (h.c (64 * i + t)) (fold h.p h.c i g t) (g t) bo 0 _ _ _ hp (by exact zH) (by simp) (fun _ _ => by rw [Nat.zero_add]; rfl) (fold_res hp.1 _ _ _ _ _) (by rw [hg6]; exact (g6_res hp.1 _ _ _ _ _).by hp.2) (by omega)).mono ?_)
    rintro r H' n5 hn5 ⟨rfl, rfl⟩
    (refine zG ?_)
    exact ⟨_, H.set bo (bys (fold h.p h.c i g (t + 1))), rfl, Drops.setc go (fun q hq => (splice_all _ _ 8 q hq).trans (by rw [fold_step])), rfl⟩

/-- (*impl.Hopf).has -/
def ir49 : Cd := (.seq (.reg [⟨some 2,none,.box 81 (.t 0)⟩,⟨some 4,none,.mov (.c (.bool false))⟩]) (.seq (.reg [⟨some 5,none,.mov (.t 1)⟩,⟨some 6,none,.mkf 65 [] [(.t 2)]⟩,⟨some 7,none,.call 64 [(.t 5),(.t 6)]⟩,⟨some 8,none,.un .not (.t 7)⟩,⟨some 4,none,.mov (.t 8)⟩]) .ret))

set_option maxRecDepth 100000 in
theorem tr49 : trFn Tryz.prog Tryz.f49 = some (9, ir49, [.tmp 4]) := by kernel_rfl

/-- The vectors of a list are shaped. -/
theorem Hopf_has (h : HT) (b : Nat) (v : SV) (len : Nat) (hl : len ≤ 4000000) (w : Nat → Int) (K : Blk) (H : Hp) (n : Nat) (hb : H.get b = some K) (hsz : 1106 ≤ K.size) (hK : h.At K.c) (hv : lst H v len w) (hw : isBy (8 * len) w) :
    FnS Tryz.prog 49 [ptr b 0, .s v] H n (fun r H' _ => r = bl (tb (∀ i, i < len → sz h.p h.n ∧ isVec h.p h.n (fun x => w (i * 8 + x)))) ∧ H' = H) := by
  refine FnS.of_body Tryz.func49 tr49 (by simp) (fun hf => ?_)
  dsimp only [argEnv]
  unfold ir49
  have hbn := getlt hf hb
  have hv' : lst ((n, ⟨1, fun _ => .ptr b 0, 81⟩) :: H) v len w := by
    rcases hv with h1 | ⟨b2, o, c, K2, h1, h2, h3⟩
    · exact .inl h1
    · have := getlt hf h2
      exact .inr ⟨b2, o, c, K2, h1, by rw [Hp.get_ne _ _ (by omega)]; exact h2, h3⟩
  (repeat first|refine zG ?_|(refine LS.nilO ?_;intro nq hnq hltq;try refine zU ?_)|(refine MS.new ?_;intro bq hbq hbqf;try refine zU ?_)|(refine MS.nil ?_;intro nq hnq hltq;have hlq:=hltq _ _ (Hp.get_eq _ _ _);clear hltq;try refine zU ?_)|(refine LS.nilQ ?_;try with_reducible intro nq hnq;try refine zU ?_))
  refine RS.call rfl ((slices_ContainsFunc (fun i => ¬(sz h.p h.n ∧ isVec h.p h.n (fun x => w (i * 8 + x)))) 65 [.ptr n 0] v len hl w _ _ hv' (fun i n' hi hn' => Hopf_has_1 h b n (fun x => w (i * 8 + x)) K _ _ _ (by exact zH) hsz hK (fun x hx => hw _ (by omega)) (by exact zH) rfl rfl)).mono ?_)
  rintro r H' n2 hn2 ⟨rfl, rfl⟩
  (repeat first|refine zG ?_|(refine LS.nilO ?_;intro nq hnq hltq;try refine zU ?_)|(refine MS.new ?_;intro bq hbq hbqf;try refine zU ?_)|(refine MS.nil ?_;intro nq hnq hltq;have hlq:=hltq _ _ (Hp.get_eq _ _ _);clear hltq;try refine zU ?_)|(refine LS.nilQ ?_;try with_reducible intro nq hnq;try refine zU ?_))
  refine ⟨_, H, rfl, by exact zD, ?_, rfl⟩
  rw [tb_not]
  exact congrArg bl (tb_iff ⟨fun q i hi => Classical.byContradiction fun h1 => q ⟨i, hi, h1⟩, fun q ⟨i, hi, h1⟩ => h1 (q i hi)⟩)

/-- laws.toHopf -/
def ir6 : Cd := (.seq (.reg [⟨some 1,none,.box 26 (.t 0)⟩,⟨some 2,none,.new 38 [(2,(.int .i64 0)),(1104,(.int .u8 0))]⟩]) (.seq (.reg [⟨some 3,none,.new 38 [(2,(.int .i64 0)),(1104,(.int .u8 0))]⟩]) (.seq (.reg [⟨some 4,none,.fa 0 (.t 1)⟩,⟨some 5,none,.ld none (.t 4)⟩,⟨some 6,none,.fa 0 (.t 3)⟩,⟨none,none,.st 1 (.t 6) (.t 5)⟩]) (.seq (.reg [⟨some 7,none,.fa 1 (.t 1)⟩,⟨some 8,none,.ld none (.t 7)⟩,⟨some 9,none,.fa 1 (.t 3)⟩,⟨none,none,.st 1 (.t 9) (.t 8)⟩]) (.seq (.reg [⟨some 10,none,.fa 2 (.t 1)⟩,⟨some 11,none,.ld (some 8) (.t 10)⟩,⟨some 12,none,.call 22 [(.t 11)]⟩,⟨some 13,none,.fa 2 (.t 3)⟩,⟨none,none,.st 8 (.t 13) (.t 12)⟩]) (.seq (.reg [⟨some 14,none,.fa 10 (.t 1)⟩,⟨some 15,none,.ld (some 512) (.t 14)⟩,⟨some 16,none,.call 23 [(.t 15)]⟩,⟨some 17,none,.fa 10 (.t 3)⟩,⟨none,none,.st 512 (.t 17) (.t 16)⟩]) (.seq (.reg [⟨some 18,none,.fa 522 (.t 1)⟩,⟨some 19,none,.ld (some 8) (.t 18)⟩,⟨some 20,none,.call 22 [(.t 19)]⟩,⟨some 21,none,.fa 522 (.t 3)⟩,⟨none,none,.st 8 (.t 21) (.t 20)⟩]) (.seq (.reg [⟨some 22,none,.fa 530 (.t 1)⟩,⟨some 23,none,.ld (some 512) (.t 22)⟩,⟨some 24,none,.call 23 [(.t 23)]⟩,⟨some 25,none,.fa 530 (.t 3)⟩,⟨none,none,.st 512 (.t 25) (.t 24)⟩]) (.seq (.reg [⟨some 26,none,.fa 1042 (.t 1)⟩,⟨some 27,none,.ld (some 64) (.t 26)⟩,⟨some 28,none,.call 24 [(.t 27)]⟩,⟨some 29,none,.fa 1042 (.t 3)⟩,⟨none,none,.st 64 (.t 29) (.t 28)⟩]) (.seq (.reg [⟨some 30,none,.ld (some 1106) (.t 3)⟩,⟨none,none,.st 1106 (.t 2) (.t 30)⟩]) .ret))))))))))

set_option maxRecDepth 100000 in
theorem tr6 : trFn Tryz.prog Tryz.f6 = some (31, ir6, [.cell (some 1106) 2]) := by kernel_rfl

theorem laws_toHopf (h : HT) (K : Nat → SV) (H : Hp) (n : Nat) (hK : h.At K) :
    FnS Tryz.prog 6 [.arr 1106 K] H n (fun r H' _ => r = .arr 1106 K ∧ H' = H) := by
  obtain ⟨k0, k1, k2, k3, k4, k5, k6⟩ := hK
  refine FnS.of_body Tryz.func6 tr6 (by simp) (fun hf => ?_)
  dsimp only [argEnv]
  unfold ir6
  (refine zG ?_)
  refine RS.call rfl ((laws_toVector h.u _ _).mono ?_)
  rintro r H' n2 hn2 ⟨rfl, rfl⟩
  (refine zG ?_)
  refine RS.call rfl ((laws_toTable h.m _ _).mono ?_)
  rintro r H' n3 hn3 ⟨rfl, rfl⟩
  (refine zG ?_)
  refine RS.call rfl ((laws_toVector h.e _ _).mono ?_)
  rintro r H' n4 hn4 ⟨rfl, rfl⟩
  (refine zG ?_)
  refine RS.call rfl ((laws_toTable h.c _ _).mono ?_)
  rintro r H' n5 hn5 ⟨rfl, rfl⟩
  (refine zG ?_)
  refine RS.call rfl ((laws_toLinear h.s _ _).mono ?_)
  rintro r H' n6 hn6 ⟨rfl, rfl⟩
  (refine zG ?_)
  refine ⟨.arr 1106 K, H, conc_arr (fun q hq => ?_), by exact zD, rfl, rfl⟩
  simp only [Nat.zero_add, splice, put1]
  by_cases e0 : q < 2
  · rw [if_neg (by omega), if_neg (by omega), if_neg (by omega), if_neg (by omega), if_neg (by omega)]
    by_cases e1 : q = 1
    · subst e1; rw [if_pos rfl]; exact k1.symm
    · have : q = 0 := by omega
      subst this; rw [if_neg (by omega), if_pos rfl]; exact k0.symm
  by_cases e1 : q < 10
  · rw [if_neg (by omega), if_neg (by omega), if_neg (by omega), if_neg (by omega), if_pos (by omega)]
    have := k2 (q - 2) (by omega)
    rw [show 2 + (q - 2) = q by omega] at this
    rw [this]; rfl
  by_cases e2 : q < 522
  · rw [if_neg (by omega), if_neg (by omega), if_neg (by omega), if_pos (by omega)]
    have := k3 (q - 10) (by omega)
    rw [show 10 + (q - 10) = q by omega] at this
    rw [this]; rfl
  by_cases e3 : q < 530
  · rw [if_neg (by omega), if_neg (by omega), if_pos (by omega)]
    have := k4 (q - 522) (by omega)
    rw [show 522 + (q - 522) = q by omega] at this
    rw [this]; rfl
  by_cases e4 : q < 1042
  · rw [if_neg (by omega), if_pos (by omega)]
    have := k5 (q - 530) (by omega)
    rw [show 530 + (q - 530) = q by omega] at this
    rw [this]; rfl
  · rw [if_pos (by omega)]
    have := k6 (q - 1042) (by omega)
    rw [show 1042 + (q - 1042) = q by omega] at this
    rw [this]; rfl

end Go.Proofs.YtideblodkkgodaaGreat
