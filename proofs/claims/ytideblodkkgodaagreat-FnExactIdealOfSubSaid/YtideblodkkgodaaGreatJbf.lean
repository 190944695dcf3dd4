/- Contracts of the program's functions. -/
import Derived.Test.YtideblodkkgodaaGreatJam
import Derived.Test.YtideblodkkgodaaGreatJal
import Derived.Test.YtideblodkkgodaaGreatJba
import Derived.Test.YtideblodkkgodaaGreatJbc
set_option linter.unusedSectionVars false
set_option linter.unusedVariables false
set_option linter.unusedSimpArgs false

namespace Go.Proofs.YtideblodkkgodaaGreat

open Go.V

variable [BW]

set_option linter.unusedSimpArgs false

set_option linter.unusedVariables false

set_option maxHeartbeats 4000000

/-- (*impl.Hopf).isShaped -/
def ir62 : Cd := (.seq (.reg [⟨some 2,none,.mov (.c (.bool false))⟩]) (.seq (.drwo true [24] [0,1,2,3,4,5,6,7,8,9,10,11,12,13,14,15,16,17,18,19,20,21,22,23,24,25,26] [⟨some 3,none,.mov (.t 0)⟩,⟨some 4,none,.call 81 [(.t 3)]⟩,⟨some 5,none,.call 82 [(.t 4)]⟩,⟨some 6,none,.mov (.t 5)⟩,⟨some 7,(some (6,true)),.mov (.t 0)⟩,⟨some 8,(some (6,true)),.call 83 [(.t 7)]⟩,⟨some 9,(some (6,true)),.call 84 [(.t 8)]⟩,⟨some 10,none,.pick (.t 6) (.t 9) (.c (.bool false))⟩,⟨some 11,none,.mov (.t 10)⟩,⟨some 12,(some (11,true)),.mov (.t 0)⟩,⟨some 13,(some (11,true)),.ck (.t 12)⟩,⟨some 14,(some (11,true)),.fa 0 (.t 13)⟩,⟨some 15,(some (11,true)),.ld none (.t 14)⟩,⟨some 16,(some (11,true)),.mov (.t 0)⟩,⟨some 17,(some (11,true)),.ck (.t 16)⟩,⟨some 18,(some (11,true)),.fa 1 (.t 17)⟩,⟨some 19,(some (11,true)),.ld none (.t 18)⟩,⟨some 20,(some (11,true)),.mov (.t 0)⟩,⟨some 21,(some (11,true)),.ck (.t 20)⟩,⟨some 22,(some (11,true)),.fa 1 (.t 21)⟩,⟨some 23,(some (11,true)),.ld none (.t 22)⟩,⟨some 24,(some (11,true)),.mov (.t 0)⟩,⟨some 25,(some (11,true)),.ck (.t 24)⟩,⟨some 26,(some (11,true)),.fa 1042 (.t 25)⟩,⟨some 27,(some (11,true)),.call 85 [(.t 15),(.t 19),(.t 23),(.t 26)]⟩,⟨some 28,none,.pick (.t 11) (.t 27) (.c (.bool false))⟩,⟨some 2,none,.mov (.t 28)⟩]) .ret))

set_option maxRecDepth 100000 in
theorem tr62 : trFn Tryz.prog Tryz.f62 = some (29, ir62, [.tmp 2]) := by kernel_rfl

theorem Hopf_isShaped (h : HT) (b : Nat) (K : Blk) (H : Hp) (n : Nat) (hb : H.get b = some K) (hsz : K.size = 1106) (hK : h.At K.c) (hB : h.By) :
    FnS Tryz.prog 62 [ptr b 0] H n (fun v H' _ => v = bl (tb (shH h)) ∧ H' = H) := by
  have k0 := hK.p
  have k1 := hK.n
  refine FnS.of_body Tryz.func62 tr62 (by simp) (fun hf => ?_)
  dsimp only [argEnv]
  unfold ir62
  have hbn := getlt hf hb
  (refine zG ?_)
  refine CS.ordL ?_; dsimp only [pick, List.filterMap_cons, List.getElem?_cons_zero, List.getElem?_cons_succ, List.filterMap_nil]
  (refine zG ?_)
  refine LS.callO (R := fun r H' => ∃ b1 c1, r = ptr b1 0 ∧ n ≤ b1 ∧ H' = (b1, ⟨522, c1, 52⟩) :: H ∧ c1 0 = .int .i64 h.p ∧ c1 1 = .int .i64 h.n ∧ (∀ q, q < 8 → c1 (2 + q) = .int .u8 (h.u q)) ∧ (∀ q, q < 512 → c1 (10 + q) = .int .u8 (h.m q)))
    rfl (fun n' hn' hl' => (Hopf_algebra h b K H n' hb hsz hK).mono ?_) ?_
  · rintro r H' n2 hn2 ⟨b1, c1, rfl, q1, q2, rfl, q3, q4, q5, q6⟩
    exact ⟨⟨b1, c1, rfl, by omega, rfl, q3, q4, q5, q6⟩, Ext.new (hf _ (by omega))⟩
  rintro r H' ⟨b1, c1, rfl, q1, rfl, q3, q4, q5, q6⟩ hE1
  (repeat first|refine zG ?_|(refine LS.nilO ?_;intro nq hnq hltq;try refine zU ?_)|(refine MS.new ?_;intro bq hbq hbqf;try refine zU ?_)|(refine MS.nil ?_;intro nq hnq hltq;have hlq:=hltq _ _ (Hp.get_eq _ _ _);clear hltq;try refine zU ?_)|(refine LS.nilQ ?_;try with_reducible intro nq hnq;try refine zU ?_))
  refine LS.callO (R := fun r H' => r = bl (tb (shp h.p h.n h.u h.m)) ∧ H' = (b1, ⟨522, c1, 52⟩) :: H) rfl
    (fun n' hn' hl' => (Algebra_isShaped h.p h.n h.u h.m b1 _ _ n' (Hp.get_eq _ _ _) rfl q3 q4 q5 q6 hB.u hB.m).mono ?_) ?_
  · rintro r H' n2 hn2 ⟨rfl, rfl⟩
    exact ⟨⟨rfl, rfl⟩, Ext.refl _⟩
  rintro r H' ⟨rfl, rfl⟩ _
  (refine zG ?_)
  refine RS.sp (t := 6) rfl (fun h2 => ?_) (fun h2 => ?_) <;> (try simp only [tb_eq, tb_eqF, decide_eq_true_eq, decide_eq_false_iff_not, beq_iff_eq, bne_iff_ne, ne_eq, Decidable.not_not, beq_eq_false_iff_ne, bne_eq_false_iff_eq, Bool.not_eq_true', Bool.not_eq_false', Bool.not_eq_eq_eq_not, Bool.not_true, Bool.not_false] at h2)
  · (refine zG ?_)
    refine LS.callO (R := fun r H' => ∃ b2 c2, r = ptr b2 0 ∧ n ≤ b2 ∧ b2 ≠ b1 ∧ H' = (b2, ⟨522, c2, 122⟩) :: (b1, ⟨522, c1, 52⟩) :: H ∧ c2 0 = .int .i64 h.p ∧ c2 1 = .int .i64 h.n ∧ (∀ q, q < 8 → c2 (2 + q) = .int .u8 (h.e q)) ∧ (∀ q, q < 512 → c2 (10 + q) = .int .u8 (h.c q)))
      rfl (fun n' hn' hl' => (Hopf_coalgebra h b K _ n' (by exact zH) hsz hK).mono ?_) ?_
    · have hl1 := hl' b1 _ (Hp.get_eq _ _ _)
      rintro r H' n2 hn2 ⟨b2, c2, rfl, p1, p2, rfl, p3, p4, p5, p6⟩
      exact ⟨⟨b2, c2, rfl, by omega, by omega, rfl, p3, p4, p5, p6⟩, Ext.new (by rw [Hp.get_ne _ _ (by omega)]; exact hf _ (by omega))⟩
    rintro r H' ⟨b2, c2, rfl, p1, p2, rfl, p3, p4, p5, p6⟩ hE2
    (refine zG ?_)
    refine LS.callO (R := fun r H' => r = bl (tb (shp h.p h.n h.e h.c)) ∧ H' = (b2, ⟨522, c2, 122⟩) :: (b1, ⟨522, c1, 52⟩) :: H) rfl
      (fun n' hn' hl' => (Coalgebra_isShaped h.p h.n h.e h.c b2 _ _ n' (Hp.get_eq _ _ _) rfl p3 p4 p5 p6 hB.e hB.c).mono ?_) ?_
    · rintro r H' n2 hn2 ⟨rfl, rfl⟩
      exact ⟨⟨rfl, rfl⟩, Ext.refl _⟩
    rintro r H' ⟨rfl, rfl⟩ _
    (refine zG ?_)
    refine RS.sp (t := 11) rfl (fun h3 => ?_) (fun h3 => ?_) <;> (try simp only [tb_eq, tb_eqF, decide_eq_true_eq, decide_eq_false_iff_not, beq_iff_eq, bne_iff_ne, ne_eq, Decidable.not_not, beq_eq_false_iff_ne, bne_eq_false_iff_eq, Bool.not_eq_true', Bool.not_eq_false', Bool.not_eq_eq_eq_not, Bool.not_true, Bool.not_false] at h3)
    · (refine zG ?_)
      refine LS.callO (R := fun r H' => r = bl (tb (sz h.p h.n ∧ isLin h.p h.n h.n h.s)) ∧ H' = (b2, ⟨522, c2, 122⟩) :: (b1, ⟨522, c1, 52⟩) :: H) rfl
        (fun n' hn' hl' => (impl_isLinear h.p h.n h.n h.s b 1042 K _ n' (by exact zH) (by omega) hK.s hB.s).mono ?_) ?_
      · rintro r H' n2 hn2 ⟨rfl, rfl⟩
        exact ⟨⟨rfl, rfl⟩, Ext.refl _⟩
      rintro r H' ⟨rfl, rfl⟩ _
      (repeat first|refine zG ?_|(refine LS.nilO ?_;intro nq hnq hltq;try refine zU ?_)|(refine MS.new ?_;intro bq hbq hbqf;try refine zU ?_)|(refine MS.nil ?_;intro nq hnq hltq;have hlq:=hltq _ _ (Hp.get_eq _ _ _);clear hltq;try refine zU ?_)|(refine LS.nilQ ?_;try with_reducible intro nq hnq;try refine zU ?_))
      exact ⟨_, H, rfl, by exact zD, congrArg bl (tb_iff ⟨fun q => ⟨h2, h3, q.2⟩, fun q => ⟨h2.1, q.2.2⟩⟩), rfl⟩
    · (repeat first|refine zG ?_|(refine LS.nilO ?_;intro nq hnq hltq;try refine zU ?_)|(refine MS.new ?_;intro bq hbq hbqf;try refine zU ?_)|(refine MS.nil ?_;intro nq hnq hltq;have hlq:=hltq _ _ (Hp.get_eq _ _ _);clear hltq;try refine zU ?_)|(refine LS.nilQ ?_;try with_reducible intro nq hnq;try refine zU ?_))
      exact ⟨_, H, rfl, by exact zD, by rw [tb_false (fun q => h3 q.2.1)], rfl⟩
  · (repeat first|refine zG ?_|(refine LS.nilO ?_;intro nq hnq hltq;try refine zU ?_)|(refine MS.new ?_;intro bq hbq hbqf;try refine zU ?_)|(refine MS.nil ?_;intro nq hnq hltq;have hlq:=hltq _ _ (Hp.get_eq _ _ _);clear hltq;try refine zU ?_)|(refine LS.nilQ ?_;try with_reducible intro nq hnq;try refine zU ?_))
    exact ⟨_, H, rfl, by exact zD, by rw [tb_false (fun q => h2 q.1)], rfl⟩

/-- impl.IsCoalgebra -/
def ir89 : Cd := (.seq (.reg [⟨some 1,none,.box 122 (.t 0)⟩,⟨some 2,none,.mov (.c (.bool false))⟩]) (.seq (.reg [⟨some 3,none,.call 84 [(.t 1)]⟩,⟨some 4,none,.mov (.t 3)⟩,⟨some 5,(some (4,true)),.call 119 [(.t 1)]⟩,⟨some 6,none,.pick (.t 4) (.t 5) (.c (.bool false))⟩,⟨some 7,none,.mov (.t 6)⟩,⟨some 8,(some (7,true)),.call 120 [(.t 1)]⟩,⟨some 9,(some (7,true)),.snil false (.t 8)⟩,⟨some 10,none,.pick (.t 7) (.t 9) (.c (.bool false))⟩,⟨some 2,none,.mov (.t 10)⟩]) .ret))

set_option maxRecDepth 100000 in
theorem tr89 : trFn Tryz.prog Tryz.f89 = some (11, ir89, [.tmp 2]) := by kernel_rfl

theorem impl_IsCoalgebra (p n' : Int) (u m : Nat → Int) (K : Nat → SV) (H : Hp) (n : Nat) (h0 : K 0 = .int .i64 p) (h1 : K 1 = .int .i64 n')
    (hU : ∀ q, q < 8 → K (2 + q) = .int .u8 (u q)) (hK : ∀ q, q < 512 → K (10 + q) = .int .u8 (m q)) (hu : isBy 8 u) (hm : isBy 512 m) :
    FnS Tryz.prog 89 [.arr 522 K] H n (fun v H' _ => v = bl (tb (isCoalg p n' u m)) ∧ H' = H) := by
  refine FnS.of_body Tryz.func89 tr89 (by simp) (fun hf => ?_)
  dsimp only [argEnv]
  unfold ir89
  (refine zG ?_)
  refine RS.call rfl ((Coalgebra_isShaped p n' u m n _ _ _ (by exact zH) rfl h0 h1 hU hK hu hm).mono ?_)
  rintro r H n2 hn2 ⟨rfl, rfl⟩
  (refine zG ?_)
  refine RS.sp (t := 4) rfl (fun h2 => ?_) (fun h2 => ?_) <;> (try simp only [tb_eq, tb_eqF, decide_eq_true_eq, decide_eq_false_iff_not, beq_iff_eq, bne_iff_ne, ne_eq, Decidable.not_not, beq_eq_false_iff_ne, bne_eq_false_iff_eq, Bool.not_eq_true', Bool.not_eq_false', Bool.not_eq_eq_eq_not, Bool.not_true, Bool.not_false] at h2)
  · obtain ⟨hz1, hz2, hz3⟩ := h2.1
    obtain ⟨a, rfl⟩ := Int.eq_ofNat_of_zero_le (show 0 ≤ n' by omega)
    have hp := isP_le hz1
    have ha : a ≤ 8 := by omega
    (refine zG ?_)
    refine RS.call rfl ((Coalgebra_isCounit p a u m n _ _ _ hp ha (by exact zH) rfl h0 h1 hU hK hu hm).mono ?_)
    rintro r H n3 hn3 ⟨rfl, rfl⟩
    (refine zG ?_)
    refine RS.sp (t := 7) rfl (fun h3 => ?_) (fun h3 => ?_) <;> (try simp only [tb_eq, tb_eqF, decide_eq_true_eq, decide_eq_false_iff_not, beq_iff_eq, bne_iff_ne, ne_eq, Decidable.not_not, beq_eq_false_iff_ne, bne_eq_false_iff_eq, Bool.not_eq_true', Bool.not_eq_false', Bool.not_eq_eq_eq_not, Bool.not_true, Bool.not_false] at h3)
    · (refine zG ?_)
      refine RS.call rfl ((Coalgebra_fault p a m n _ _ _ hp (by omega) ha (by exact zH) rfl h0 h1 hK hm).mono ?_)
      rintro r H n4 hn4 ⟨⟨rfl, h6⟩ | ⟨⟨b1, o1, l1, c1, rfl⟩, h6⟩, rfl⟩
      · (refine zG ?_)
        exact ⟨_, H, rfl, by exact zD, by rw [tb_true (isCoalg_nat.2 ⟨h2, h3, h6⟩)]; rfl, rfl⟩
      · (refine zG ?_)
        exact ⟨_, H, rfl, by exact zD, by rw [tb_false (fun h => h6 h.2.2)], rfl⟩
    · (refine zG ?_)
      exact ⟨_, H, rfl, by exact zD, by rw [tb_false (fun h => h3 h.2.1)], rfl⟩
  · (refine zG ?_)
    exact ⟨_, H, rfl, by exact zD, by rw [tb_false (fun h => h2 h.1)], rfl⟩

/-- (*impl.Hopf).axiom3 -/
def ir90 : Cd := (.seq (.reg [⟨some 2,none,.mov (.c (.bool false))⟩]) (.seq (.reg [⟨some 6,none,.mov (.t 0)⟩,⟨some 7,none,.ck (.t 6)⟩,⟨some 8,none,.fa 1 (.t 7)⟩,⟨some 9,none,.ld none (.t 8)⟩,⟨some 3,none,.mov (.t 9)⟩]) (.seq (.seq (.reg [⟨some 10,none,.mov (.t 3)⟩,⟨some 11,none,.mov (.c (.int .i64 0))⟩]) (.block 0 (.loop (.seq (.reg [⟨some 12,none,.bin .lss (.t 11) (.t 10)⟩]) (.seq (.cond (.t 12) .skip (.exit 0)) (.seq (.block 1 (.seq (.reg [⟨some 13,none,.mov (.t 11)⟩,⟨some 4,none,.mov (.t 13)⟩]) (.seq (.reg [⟨some 14,none,.mov (.t 3)⟩,⟨some 15,none,.mov (.c (.int .i64 0))⟩]) (.block 2 (.loop (.seq (.reg [⟨some 16,none,.bin .lss (.t 15) (.t 14)⟩]) (.seq (.cond (.t 16) .skip (.exit 2)) (.seq (.block 3 (.seq (.reg [⟨some 17,none,.mov (.t 15)⟩,⟨some 5,none,.mov (.t 17)⟩]) (.seq (.drw true [21] [⟨some 18,none,.mov (.t 0)⟩,⟨some 19,none,.mov (.t 0)⟩,⟨some 20,none,.mov (.t 4)⟩,⟨some 21,none,.mov (.t 5)⟩,⟨some 22,none,.ck (.t 19)⟩,⟨some 23,none,.fa 10 (.t 22)⟩,⟨some 24,none,.ia 8 64 (.t 23) (.t 20)⟩,⟨some 25,none,.ia 8 8 (.t 24) (.t 21)⟩,⟨some 26,none,.ld (some 8) (.t 25)⟩,⟨some 27,none,.call 72 [(.t 18),(.t 26)]⟩,⟨some 28,none,.mov (.t 0)⟩,⟨some 29,none,.mov (.t 0)⟩,⟨some 30,none,.mov (.t 4)⟩,⟨some 31,none,.ck (.t 29)⟩,⟨some 32,none,.fa 530 (.t 31)⟩,⟨some 33,none,.ia 8 64 (.t 32) (.t 30)⟩,⟨some 34,none,.mov (.t 0)⟩,⟨some 35,none,.mov (.t 5)⟩,⟨some 36,none,.ck (.t 34)⟩,⟨some 37,none,.fa 530 (.t 36)⟩,⟨some 38,none,.ia 8 64 (.t 37) (.t 35)⟩,⟨some 39,none,.call 121 [(.t 28),(.t 33),(.t 38)]⟩,⟨some 40,none,.eqa true 64 (.t 27) (.t 39)⟩]) (.cond (.t 40) (.seq (.reg [⟨some 2,none,.mov (.c (.bool false))⟩]) .ret) .skip)))) (.reg [⟨some 41,none,.bin .add (.t 15) (.c (.int .i64 1))⟩,⟨some 15,none,.mov (.t 41)⟩]))))))))) (.reg [⟨some 42,none,.bin .add (.t 11) (.c (.int .i64 1))⟩,⟨some 11,none,.mov (.t 42)⟩]))))))) (.seq (.reg [⟨some 2,none,.mov (.c (.bool true))⟩]) .ret))))

set_option maxRecDepth 100000 in
theorem tr90 : trFn Tryz.prog Tryz.f90 = some (43, ir90, [.tmp 2]) := by kernel_rfl

theorem Hopf_axiom3 (h : HT) (a : Nat) (b : Nat) (K : Blk) (H : Hp) (n : Nat) (hS : HS h a) (hb : H.get b = some K) (hsz : K.size = 1106) (hK : h.At K.c) (hB : h.By) :
    FnS Tryz.prog 90 [ptr b 0] H n (fun r H' _ => r = bl (tb (ax3 h)) ∧ H' = H) := by
  have hp := hS.hp
  have ha := hS.ha
  have hk1 := hK.n
  rw [hS.hn] at hk1
  have hk5 := hK.m
  have hk6 := hK.c
  refine FnS.of_body Tryz.func90 tr90 (by simp) (fun hf => ?_)
  dsimp only [argEnv]
  unfold ir90
  have hbn := getlt hf hb
  (refine zG ?_)
  refine CS.iter a (fun i => [(11, i64 i), (10, i64 a), (3, i64 a), (0, ptr b 0)]) (fun _ => H)
    (fun i => ∀ i' j : Nat, i' < i → j < a → ∀ q, q < 64 → cps h.p h.c (fun x => h.m (64 * i' + 8 * j + x)) 8 q = ten h.p h.m (fun q => h.c (64 * i' + q)) (fun q => h.c (64 * j + q)) q) (by (repeat first | exact trivial | refine And.intro rfl ?_)) (Drops.refl _ _) (fun _ _ h => by omega) ?_
  intro i n1 hi hn hJ
  (refine zG ?_)
  refine zI ?_ ?_<;>intro h2
  · (refine zG ?_)
    refine CS.iter a (fun j => [(15, i64 j), (14, i64 a), (4, i64 i), (11, i64 i), (10, i64 a), (3, i64 a), (0, ptr b 0)]) (fun _ => H)
      (fun j => ∀ j' : Nat, j' < j → ∀ q, q < 64 → cps h.p h.c (fun x => h.m (64 * i + 8 * j' + x)) 8 q = ten h.p h.m (fun q => h.c (64 * i + q)) (fun q => h.c (64 * j' + q)) q) (by (repeat first | exact trivial | refine And.intro rfl ?_)) (Drops.refl _ _) (fun _ h => by omega) ?_
    intro j n2 hj hn2 hJ2
    (refine zG ?_)
    refine zI ?_ ?_<;>intro h3
    · (refine zG ?_)
      refine LS.callQ (.arr 64 (bys (cps h.p h.c (fun x => h.m (64 * i + 8 * j + x)) 8))) rfl (fun n' hn' => Hopf_coproduct h a (fun x => h.m (64 * i + 8 * j + x)) b K _ _ hS (by exact zH) hsz hK hB (hB.rowm (by omega) (by omega))) ?_
      (repeat first|refine zG ?_|(refine LS.nilO ?_;intro nq hnq hltq;try refine zU ?_)|(refine MS.new ?_;intro bq hbq hbqf;try refine zU ?_)|(refine MS.nil ?_;intro nq hnq hltq;have hlq:=hltq _ _ (Hp.get_eq _ _ _);clear hltq;try refine zU ?_)|(refine LS.nilQ ?_;try with_reducible intro nq hnq;try refine zU ?_))
      refine RS.call rfl ((Hopf_tensor h a (fun q => h.c (64 * i + q)) (fun q => h.c (64 * j + q)) b b (530 + 64 * i) b (530 + 64 * j) K K K _ _ hS (by exact zH) hsz hK hB (hB.rowc (by omega)) (hB.rowc (by omega)) (by exact zH) (by omega) (fun q hq => by rw [Nat.add_assoc]; exact hk6 _ (by omega)) (by exact zH) (by omega) (fun q hq => by rw [Nat.add_assoc]; exact hk6 _ (by omega))).mono ?_)
      rintro r H n3 hn3 ⟨rfl, rfl⟩
      (refine zG ?_)
      refine zI ?_ ?_<;>intro h4
      · (refine zG ?_)
        exact ⟨_, H, rfl, by exact zD, by rw [tb_false (fun q => h4 (q i j (by rw [hS.N]; omega) (by rw [hS.N]; omega)))], rfl⟩
      · (refine zG ?_)
        refine ⟨by omega, by (repeat first | exact trivial | refine And.intro rfl ?_), Drops.refl _ _, fun j' hj' => ?_⟩
        by_cases e : j' = j
        · subst e; exact h4
        · exact hJ2 j' (by omega)
    · have : j = a := by omega
      subst this
      (refine zG ?_)
      refine ⟨by omega, by (repeat first | exact trivial | refine And.intro rfl ?_), Drops.refl _ _, fun i' j' hi' => ?_⟩
      by_cases e : i' = i
      · subst e; exact fun hj' => hJ2 j' hj'
      · exact hJ i' j' (by omega)
  · have : i = a := by omega
    subst this
    (refine zG ?_)
    exact ⟨_, H, rfl, by exact zD, by rw [tb_true (show ax3 h from fun i' j' h1 h2 => by rw [hS.N] at h1 h2; exact hJ i' j' h1 h2)], rfl⟩

end Go.Proofs.YtideblodkkgodaaGreat
