/- Contracts of the program's functions. -/
import Derived.Test.YtbknndbfbebkdabGreatRR
import Derived.Test.YtbknndbfbebkdabGreatRLW
import Derived.Test.YtbknndbfbebkdabGreatRF4a
import Derived.Test.YtbknndbfbebkdabGreatRF4b
import Derived.Test.YtbknndbfbebkdabGreatRF4c
namespace Go.Proofs.YtbknndbfbebkdabGreatR
open Go.V
set_option linter.unusedSimpArgs false
set_option linter.unusedVariables false
set_option maxHeartbeats 4000000
/-- (*impl.Hopf).isShaped -/
def ir86 : Cd := (.seq (.reg [⟨some 2,none,.mov (.c (.bool false))⟩]) (.seq (.drwo true [24] [0,1,2,3,4,5,6,7,8,9,10,11,12,13,14,15,16,17,18,19,20,21,22,23,24,25,26] [⟨some 3,none,.mov (.t 0)⟩,⟨some 4,none,.call 100 [(.t 3)]⟩,⟨some 5,none,.call 101 [(.t 4)]⟩,⟨some 6,none,.mov (.t 5)⟩,⟨some 7,(some (6,true)),.mov (.t 0)⟩,⟨some 8,(some (6,true)),.call 102 [(.t 7)]⟩,⟨some 9,(some (6,true)),.call 103 [(.t 8)]⟩,⟨some 10,none,.pick (.t 6) (.t 9) (.c (.bool false))⟩,⟨some 11,none,.mov (.t 10)⟩,⟨some 12,(some (11,true)),.mov (.t 0)⟩,⟨some 13,(some (11,true)),.ck (.t 12)⟩,⟨some 14,(some (11,true)),.fa 0 (.t 13)⟩,⟨some 15,(some (11,true)),.ld none (.t 14)⟩,⟨some 16,(some (11,true)),.mov (.t 0)⟩,⟨some 17,(some (11,true)),.ck (.t 16)⟩,⟨some 18,(some (11,true)),.fa 1 (.t 17)⟩,⟨some 19,(some (11,true)),.ld none (.t 18)⟩,⟨some 20,(some (11,true)),.mov (.t 0)⟩,⟨some 21,(some (11,true)),.ck (.t 20)⟩,⟨some 22,(some (11,true)),.fa 1 (.t 21)⟩,⟨some 23,(some (11,true)),.ld none (.t 22)⟩,⟨some 24,(some (11,true)),.mov (.t 0)⟩,⟨some 25,(some (11,true)),.ck (.t 24)⟩,⟨some 26,(some (11,true)),.fa 1042 (.t 25)⟩,⟨some 27,(some (11,true)),.call 59 [(.t 15),(.t 19),(.t 23),(.t 26)]⟩,⟨some 28,none,.pick (.t 11) (.t 27) (.c (.bool false))⟩,⟨some 2,none,.mov (.t 28)⟩]) .ret))
set_option maxRecDepth 100000 in
theorem tr86 : trFn Tryz.prog Tryz.f86 = some (29, ir86, [.tmp 2]) := by kernel_rfl
theorem Hopf_isShaped (h : HT) (b : Nat) (K : Blk) (H : Hp) (n : Nat) (hb : H.get b = some K) (hsz : K.size = 1106) (hK : h.At K.c) (hB : h.By) :
    FnS Tryz.prog 86 [ptr b 0] H n (fun v H' _ => v = bl (tb (shH h)) ∧ H' = H) := by
  have k0 := hK.p
  have k1 := hK.n
  refine FnS.of_body Tryz.func86 tr86 (by simp) (fun hf => ?_)
  dsimp only [argEnv]
  unfold ir86
  have hbn := getlt hf hb
  (repeat first|refine zG ?_|(refine LS.nilO ?_;intro nq hnq hltq;try refine zU ?_)|(refine MS.new ?_;intro bq hbq hbqf;try refine zU ?_)|(refine MS.nil ?_;intro nq hnq hltq;have hlq:=hltq _ _ (Hp.get_eq _ _ _);clear hltq;try refine zU ?_)|(refine LS.nilQ ?_;try with_reducible intro nq hnq;try refine zU ?_))
  refine CS.ordL ?_; dsimp only [pick, List.filterMap_cons, List.getElem?_cons_zero, List.getElem?_cons_succ, List.filterMap_nil]
  (repeat first|refine zG ?_|(refine LS.nilO ?_;intro nq hnq hltq;try refine zU ?_)|(refine MS.new ?_;intro bq hbq hbqf;try refine zU ?_)|(refine MS.nil ?_;intro nq hnq hltq;have hlq:=hltq _ _ (Hp.get_eq _ _ _);clear hltq;try refine zU ?_)|(refine LS.nilQ ?_;try with_reducible intro nq hnq;try refine zU ?_))
  refine LS.callO (R := fun r H' => ∃ b1 c1, r = ptr b1 0 ∧ n ≤ b1 ∧ H' = (b1, ⟨522, c1, 61⟩) :: H ∧ c1 0 = .int .i64 h.p ∧ c1 1 = .int .i64 h.n ∧ (∀ q, q < 8 → c1 (2 + q) = .int .u8 (h.u q)) ∧ (∀ q, q < 512 → c1 (10 + q) = .int .u8 (h.m q)))
    rfl (fun n' hn' hl' => (Hopf_algebra h b K H n' hb hsz hK).mono ?_) ?_
  · rintro r H' n2 hn2 ⟨b1, c1, rfl, q1, q2, rfl, q3, q4, q5, q6⟩
    exact ⟨⟨b1, c1, rfl, by omega, rfl, q3, q4, q5, q6⟩, Ext.new (hf _ (by omega))⟩
  rintro r H' ⟨b1, c1, rfl, q1, rfl, q3, q4, q5, q6⟩ hE1
  (repeat first|refine zG ?_|(refine LS.nilO ?_;intro nq hnq hltq;try refine zU ?_)|(refine MS.new ?_;intro bq hbq hbqf;try refine zU ?_)|(refine MS.nil ?_;intro nq hnq hltq;have hlq:=hltq _ _ (Hp.get_eq _ _ _);clear hltq;try refine zU ?_)|(refine LS.nilQ ?_;try with_reducible intro nq hnq;try refine zU ?_))
  refine LS.callO (R := fun r H' => r = bl (tb (shp h.p h.n h.u h.m)) ∧ H' = (b1, ⟨522, c1, 61⟩) :: H) rfl
    (fun n' hn' hl' => (Algebra_isShaped h.p h.n h.u h.m b1 _ _ n' (Hp.get_eq _ _ _) rfl q3 q4 q5 q6 hB.u hB.m).mono ?_) ?_
  · rintro r H' n2 hn2 ⟨rfl, rfl⟩
    exact ⟨⟨rfl, rfl⟩, Ext.refl _⟩
  rintro r H' ⟨rfl, rfl⟩ _
  (repeat first|refine zG ?_|(refine LS.nilO ?_;intro nq hnq hltq;try refine zU ?_)|(refine MS.new ?_;intro bq hbq hbqf;try refine zU ?_)|(refine MS.nil ?_;intro nq hnq hltq;have hlq:=hltq _ _ (Hp.get_eq _ _ _);clear hltq;try refine zU ?_)|(refine LS.nilQ ?_;try with_reducible intro nq hnq;try refine zU ?_))
  refine RS.sp (t := 6) rfl (fun h2 => ?_) (fun h2 => ?_) <;> (try simp only [tb_eq, tb_eqF, decide_eq_true_eq, decide_eq_false_iff_not, beq_iff_eq, bne_iff_ne, ne_eq, Decidable.not_not, beq_eq_false_iff_ne, bne_eq_false_iff_eq, Bool.not_eq_true', Bool.not_eq_false', Bool.not_eq_eq_eq_not, Bool.not_true, Bool.not_false] at h2)
  · (repeat first|refine zG ?_|(refine LS.nilO ?_;intro nq hnq hltq;try refine zU ?_)|(refine MS.new ?_;intro bq hbq hbqf;try refine zU ?_)|(refine MS.nil ?_;intro nq hnq hltq;have hlq:=hltq _ _ (Hp.get_eq _ _ _);clear hltq;try refine zU ?_)|(refine LS.nilQ ?_;try with_reducible intro nq hnq;try refine zU ?_))
    refine LS.callO (R := fun r H' => ∃ b2 c2, r = ptr b2 0 ∧ n ≤ b2 ∧ b2 ≠ b1 ∧ H' = (b2, ⟨522, c2, 46⟩) :: (b1, ⟨522, c1, 61⟩) :: H ∧ c2 0 = .int .i64 h.p ∧ c2 1 = .int .i64 h.n ∧ (∀ q, q < 8 → c2 (2 + q) = .int .u8 (h.e q)) ∧ (∀ q, q < 512 → c2 (10 + q) = .int .u8 (h.c q)))
      rfl (fun n' hn' hl' => (Hopf_coalgebra h b K _ n' (by exact zH) hsz hK).mono ?_) ?_
    · have hl1 := hl' b1 _ (Hp.get_eq _ _ _)
      rintro r H' n2 hn2 ⟨b2, c2, rfl, p1, p2, rfl, p3, p4, p5, p6⟩
      exact ⟨⟨b2, c2, rfl, by omega, by omega, rfl, p3, p4, p5, p6⟩, Ext.new (by rw [Hp.get_ne _ _ (by omega)]; exact hf _ (by omega))⟩
    rintro r H' ⟨b2, c2, rfl, p1, p2, rfl, p3, p4, p5, p6⟩ hE2
    (repeat first|refine zG ?_|(refine LS.nilO ?_;intro nq hnq hltq;try refine zU ?_)|(refine MS.new ?_;intro bq hbq hbqf;try refine zU ?_)|(refine MS.nil ?_;intro nq hnq hltq;have hlq:=hltq _ _ (Hp.get_eq _ _ _);clear hltq;try refine zU ?_)|(refine LS.nilQ ?_;try with_reducible intro nq hnq;try refine zU ?_))
    refine LS.callO (R := fun r H' => r = bl (tb (shp h.p h.n h.e h.c)) ∧ H' = (b2, ⟨522, c2, 46⟩) :: (b1, ⟨522, c1, 61⟩) :: H) rfl
      (fun n' hn' hl' => (Coalgebra_isShaped h.p h.n h.e h.c b2 _ _ n' (Hp.get_eq _ _ _) rfl p3 p4 p5 p6 hB.e hB.c).mono ?_) ?_
    · rintro r H' n2 hn2 ⟨rfl, rfl⟩
      exact ⟨⟨rfl, rfl⟩, Ext.refl _⟩
    rintro r H' ⟨rfl, rfl⟩ _
    (repeat first|refine zG ?_|(refine LS.nilO ?_;intro nq hnq hltq;try refine zU ?_)|(refine MS.new ?_;intro bq hbq hbqf;try refine zU ?_)|(refine MS.nil ?_;intro nq hnq hltq;have hlq:=hltq _ _ (Hp.get_eq _ _ _);clear hltq;try refine zU ?_)|(refine LS.nilQ ?_;try with_reducible intro nq hnq;try refine zU ?_))
    refine RS.sp (t := 11) rfl (fun h3 => ?_) (fun h3 => ?_) <;> (try simp only [tb_eq, tb_eqF, decide_eq_true_eq, decide_eq_false_iff_not, beq_iff_eq, bne_iff_ne, ne_eq, Decidable.not_not, beq_eq_false_iff_ne, bne_eq_false_iff_eq, Bool.not_eq_true', Bool.not_eq_false', Bool.not_eq_eq_eq_not, Bool.not_true, Bool.not_false] at h3)
    · (repeat first|refine zG ?_|(refine LS.nilO ?_;intro nq hnq hltq;try refine zU ?_)|(refine MS.new ?_;intro bq hbq hbqf;try refine zU ?_)|(refine MS.nil ?_;intro nq hnq hltq;have hlq:=hltq _ _ (Hp.get_eq _ _ _);clear hltq;try refine zU ?_)|(refine LS.nilQ ?_;try with_reducible intro nq hnq;try refine zU ?_))
      refine LS.callO (R := fun r H' => r = bl (tb (sz h.p h.n ∧ isLin h.p h.n h.n h.s)) ∧ H' = (b2, ⟨522, c2, 46⟩) :: (b1, ⟨522, c1, 61⟩) :: H) rfl
        (fun n' hn' hl' => (impl_isLinear h.p h.n h.n h.s b 1042 K _ n' (by exact zH) (by omega) hK.s hB.s).mono ?_) ?_
      · rintro r H' n2 hn2 ⟨rfl, rfl⟩
        exact ⟨⟨rfl, rfl⟩, Ext.refl _⟩
      rintro r H' ⟨rfl, rfl⟩ _
      (repeat first|refine zG ?_|(refine LS.nilO ?_;intro nq hnq hltq;try refine zU ?_)|(refine MS.new ?_;intro bq hbq hbqf;try refine zU ?_)|(refine MS.nil ?_;intro nq hnq hltq;have hlq:=hltq _ _ (Hp.get_eq _ _ _);clear hltq;try refine zU ?_)|(refine LS.nilQ ?_;try with_reducible intro nq hnq;try refine zU ?_))
      exact ⟨_, H, rfl, by exact zD, congrArg bl (tb_iff ⟨fun q => ⟨h2, h3, q.2⟩, fun q => ⟨h2.1, q.2.2⟩⟩), rfl⟩
    · (repeat first|refine zG ?_|(refine LS.nilO ?_;intro nq hnq hltq;try refine zU ?_)|(refine MS.new ?_;intro bq hbq hbqf;try refine zU ?_)|(refine MS.nil ?_;intro nq hnq hltq;have hlq:=hltq _ _ (Hp.get_eq _ _ _);clear hltq;try refine zU ?_)|(refine LS.nilQ ?_;try with_reducible intro nq hnq;try refine zU ?_))
      exact ⟨_, H, rfl, by exact zD, by rw [tb_false (fun q => h3 q.2.1)], rfl⟩
  · (repeat first|refine zG ?_|(refine LS.nilO ?_;intro nq hnq hltq;try refine zU ?_)|(refine MS.new ?_;intro bq hbq hbqf;try refine zU ?_)|(refine MS.nil ?_;intro nq hnq hltq;have hlq:=hltq _ _ (Hp.get_eq _ _ _);clear hltq;try refine zU ?_)|(refine LS.nilQ ?_;try with_reducible intro nq hnq;try refine zU ?_))
    exact ⟨_, H, rfl, by exact zD, by rw [tb_false (fun q => h2 q.1)], rfl⟩
/-- spec.l01Is -/
def ir117 : Cd := (.seq (.reg [⟨some 1,none,.box 61 (.t 0)⟩,⟨some 2,none,.mov (.c (.bool false))⟩]) (.seq (.seq (.reg [⟨some 6,none,.ld (some 522) (.t 1)⟩,⟨some 7,none,.call 90 [(.t 6)]⟩,⟨some 8,none,.un .not (.t 7)⟩]) (.cond (.t 8) (.seq (.reg [⟨some 2,none,.mov (.c (.bool false))⟩]) .ret) .skip)) (.seq (.seq (.reg [⟨some 3,none,.mov (.c (.int .i64 0))⟩]) (.block 0 (.loop (.seq (.seq (.reg [⟨some 9,none,.mov (.t 3)⟩,⟨some 10,none,.fa 1 (.t 1)⟩,⟨some 11,none,.ld none (.t 10)⟩,⟨some 12,none,.bin .lss (.t 9) (.t 11)⟩]) (.cond (.t 12) .skip (.exit 0))) (.seq (.block 1 (.seq (.drwo true [17] [0,1,2,3,6,4,5,7,8,9,10,11,13,14,16,12,15,17,18,19] [⟨some 15,none,.ld (some 522) (.t 1)⟩,⟨some 16,none,.fa 2 (.t 1)⟩,⟨some 17,none,.ld (some 8) (.t 16)⟩,⟨some 18,none,.mov (.t 3)⟩,⟨some 19,none,.call 31 [(.t 18)]⟩,⟨some 20,none,.call 30 [(.t 15),(.t 17),(.t 19)]⟩,⟨some 21,none,.mov (.t 3)⟩,⟨some 22,none,.call 31 [(.t 21)]⟩,⟨some 23,none,.eqa true 8 (.t 20) (.t 22)⟩,⟨some 24,none,.mov (.t 23)⟩,⟨some 25,(some (24,false)),.ld (some 522) (.t 1)⟩,⟨some 26,(some (24,false)),.mov (.t 3)⟩,⟨some 27,(some (24,false)),.call 31 [(.t 26)]⟩,⟨some 28,(some (24,false)),.fa 2 (.t 1)⟩,⟨some 29,(some (24,false)),.ld (some 8) (.t 28)⟩,⟨some 30,(some (24,false)),.call 30 [(.t 25),(.t 27),(.t 29)]⟩,⟨some 31,(some (24,false)),.mov (.t 3)⟩,⟨some 32,(some (24,false)),.call 31 [(.t 31)]⟩,⟨some 33,(some (24,false)),.eqa true 8 (.t 30) (.t 32)⟩,⟨some 34,none,.pick (.t 24) (.c (.bool true)) (.t 33)⟩]) (.cond (.t 34) (.seq (.reg [⟨some 2,none,.mov (.c (.bool false))⟩]) .ret) .skip))) (.reg [⟨some 13,none,.mov (.t 3)⟩,⟨some 14,none,.bin .add (.t 13) (.c (.int .i64 1))⟩,⟨some 3,none,.mov (.t 14)⟩])))))) (.seq (.reg [⟨some 36,none,.ld (some 522) (.t 1)⟩,⟨some 37,none,.call 133 [(.t 36)]⟩,⟨some 35,none,.mov (.t 37)⟩,⟨some 38,none,.ex (.t 35) 0⟩,⟨some 39,none,.ex (.t 35) 1⟩,⟨some 4,none,.mov (.t 38)⟩,⟨some 5,none,.mov (.t 39)⟩]) (.seq (.reg [⟨some 40,none,.mov (.t 5)⟩,⟨some 41,none,.un .not (.t 40)⟩,⟨some 2,none,.mov (.t 41)⟩]) .ret)))))
set_option maxRecDepth 100000 in
theorem tr117 : trFn Tryz.prog Tryz.f117 = some (42, ir117, [.tmp 2]) := by kernel_rfl
theorem spec_l01Is (p n' : Int) (u m : Nat → Int) (K : Nat → SV) (H : Hp) (n : Nat) (h0 : K 0 = .int .i64 p) (h1 : K 1 = .int .i64 n')
    (hU : ∀ q, q < 8 → K (2 + q) = .int .u8 (u q)) (hK : ∀ q, q < 512 → K (10 + q) = .int .u8 (m q)) (hu : isBy 8 u) (hm : isBy 512 m) :
    FnS Tryz.prog 117 [.arr 522 K] H n (fun v H' _ => v = bl (tb (isAlg p n' u m)) ∧ H' = H) := by
  refine FnS.of_body Tryz.func117 tr117 (by simp) (fun hf => ?_)
  dsimp only [argEnv]
  unfold ir117
  (repeat first|refine zG ?_|(refine LS.nilO ?_;intro nq hnq hltq;try refine zU ?_)|(refine MS.new ?_;intro bq hbq hbqf;try refine zU ?_)|(refine MS.nil ?_;intro nq hnq hltq;have hlq:=hltq _ _ (Hp.get_eq _ _ _);clear hltq;try refine zU ?_)|(refine LS.nilQ ?_;try with_reducible intro nq hnq;try refine zU ?_))
  refine RS.call rfl ((FnS.args (concs_cons (conc_arr (fun q hq => rfl)) rfl) (spec_l01Shape p n' u m K _ _ h0 h1 hU hK hu hm)).mono ?_)
  rintro r H n2 hn2 ⟨rfl, rfl⟩
  (repeat first|refine zG ?_|(refine LS.nilO ?_;intro nq hnq hltq;try refine zU ?_)|(refine MS.new ?_;intro bq hbq hbqf;try refine zU ?_)|(refine MS.nil ?_;intro nq hnq hltq;have hlq:=hltq _ _ (Hp.get_eq _ _ _);clear hltq;try refine zU ?_)|(refine LS.nilQ ?_;try with_reducible intro nq hnq;try refine zU ?_))
  refine zI ?_ ?_<;>intro h2
  · (repeat first|refine zG ?_|(refine LS.nilO ?_;intro nq hnq hltq;try refine zU ?_)|(refine MS.new ?_;intro bq hbq hbqf;try refine zU ?_)|(refine MS.nil ?_;intro nq hnq hltq;have hlq:=hltq _ _ (Hp.get_eq _ _ _);clear hltq;try refine zU ?_)|(refine LS.nilQ ?_;try with_reducible intro nq hnq;try refine zU ?_))
    exact ⟨_, H, rfl, by exact zD, by rw [tb_false (fun h => h2 h.1)], rfl⟩
  · obtain ⟨hz1, hz2, hz3⟩ := h2.1
    obtain ⟨a, rfl⟩ := Int.eq_ofNat_of_zero_le (show 0 ≤ n' by omega)
    have hp := isP_le hz1
    have ha : a ≤ 8 := by omega
    (repeat first|refine zG ?_|(refine LS.nilO ?_;intro nq hnq hltq;try refine zU ?_)|(refine MS.new ?_;intro bq hbq hbqf;try refine zU ?_)|(refine MS.nil ?_;intro nq hnq hltq;have hlq:=hltq _ _ (Hp.get_eq _ _ _);clear hltq;try refine zU ?_)|(refine LS.nilQ ?_;try with_reducible intro nq hnq;try refine zU ?_))
    refine CS.iter a (fun i => [(3, i64 i), (1, ptr n 0)]) (fun _ => (n, ⟨522, K, 61⟩) :: H)
      (fun i => ∀ i' : Nat, i' < i → (∀ q, q < 8 → pr p m u (bas i') a q = bas i' q) ∧ (∀ q, q < 8 → pr p m (bas i') u a q = bas i' q)) (by (repeat first | exact trivial | refine And.intro rfl ?_)) (Drops.refl _ _) (fun _ h => by omega) ?_
    intro i n3 hi hn hJ
    (repeat first|refine zG ?_|(refine LS.nilO ?_;intro nq hnq hltq;try refine zU ?_)|(refine MS.new ?_;intro bq hbq hbqf;try refine zU ?_)|(refine MS.nil ?_;intro nq hnq hltq;have hlq:=hltq _ _ (Hp.get_eq _ _ _);clear hltq;try refine zU ?_)|(refine LS.nilQ ?_;try with_reducible intro nq hnq;try refine zU ?_))
    refine zI ?_ ?_<;>intro h3
    · (repeat first|refine zG ?_|(refine LS.nilO ?_;intro nq hnq hltq;try refine zU ?_)|(refine MS.new ?_;intro bq hbq hbqf;try refine zU ?_)|(refine MS.nil ?_;intro nq hnq hltq;have hlq:=hltq _ _ (Hp.get_eq _ _ _);clear hltq;try refine zU ?_)|(refine LS.nilQ ?_;try with_reducible intro nq hnq;try refine zU ?_))
      refine CS.quietLo ?_
      (repeat first|refine zG ?_|(refine LS.nilO ?_;intro nq hnq hltq;try refine zU ?_)|(refine MS.new ?_;intro bq hbq hbqf;try refine zU ?_)|(refine MS.nil ?_;intro nq hnq hltq;have hlq:=hltq _ _ (Hp.get_eq _ _ _);clear hltq;try refine zU ?_)|(refine LS.nilQ ?_;try with_reducible intro nq hnq;try refine zU ?_))
      refine LS.callQ (.arr 8 (bys (bas i))) rfl (fun n' hn' => spec_l01Basis i _ _ (by omega)) ?_
      (repeat first|refine zG ?_|(refine LS.nilO ?_;intro nq hnq hltq;try refine zU ?_)|(refine MS.new ?_;intro bq hbq hbqf;try refine zU ?_)|(refine MS.nil ?_;intro nq hnq hltq;have hlq:=hltq _ _ (Hp.get_eq _ _ _);clear hltq;try refine zU ?_)|(refine LS.nilQ ?_;try with_reducible intro nq hnq;try refine zU ?_))
      refine LS.callQ (.arr 8 (bys (pr p m u (bas i) a))) rfl (fun n' hn' => spec_l01Times p a m u (bas i) _ _ _ hp ha h0 h1 hK hm hu (bas_by _ _)) ?_
      (repeat first|refine zG ?_|(refine LS.nilO ?_;intro nq hnq hltq;try refine zU ?_)|(refine MS.new ?_;intro bq hbq hbqf;try refine zU ?_)|(refine MS.nil ?_;intro nq hnq hltq;have hlq:=hltq _ _ (Hp.get_eq _ _ _);clear hltq;try refine zU ?_)|(refine LS.nilQ ?_;try with_reducible intro nq hnq;try refine zU ?_))
      refine LS.callQ (.arr 8 (bys (bas i))) rfl (fun n' hn' => spec_l01Basis i _ _ (by omega)) ?_
      (repeat first|refine zG ?_|(refine LS.nilO ?_;intro nq hnq hltq;try refine zU ?_)|(refine MS.new ?_;intro bq hbq hbqf;try refine zU ?_)|(refine MS.nil ?_;intro nq hnq hltq;have hlq:=hltq _ _ (Hp.get_eq _ _ _);clear hltq;try refine zU ?_)|(refine LS.nilQ ?_;try with_reducible intro nq hnq;try refine zU ?_))
      refine RS.sp (t := 24) rfl (fun h4 => ?_) (fun h4 => ?_) <;> (try simp only [tb_eq, tb_eqF, decide_eq_true_eq, decide_eq_false_iff_not, beq_iff_eq, bne_iff_ne, ne_eq, Decidable.not_not, beq_eq_false_iff_ne, bne_eq_false_iff_eq, Bool.not_eq_true', Bool.not_eq_false', Bool.not_eq_eq_eq_not, Bool.not_true, Bool.not_false] at h4)
      · (repeat first|refine zG ?_|(refine LS.nilO ?_;intro nq hnq hltq;try refine zU ?_)|(refine MS.new ?_;intro bq hbq hbqf;try refine zU ?_)|(refine MS.nil ?_;intro nq hnq hltq;have hlq:=hltq _ _ (Hp.get_eq _ _ _);clear hltq;try refine zU ?_)|(refine LS.nilQ ?_;try with_reducible intro nq hnq;try refine zU ?_))
        exact ⟨_, H, rfl, by exact zD, by rw [tb_false (fun h => h4 (h.2.1 i (by omega)).1)], rfl⟩
      · (repeat first|refine zG ?_|(refine LS.nilO ?_;intro nq hnq hltq;try refine zU ?_)|(refine MS.new ?_;intro bq hbq hbqf;try refine zU ?_)|(refine MS.nil ?_;intro nq hnq hltq;have hlq:=hltq _ _ (Hp.get_eq _ _ _);clear hltq;try refine zU ?_)|(refine LS.nilQ ?_;try with_reducible intro nq hnq;try refine zU ?_))
        refine LS.callQ (.arr 8 (bys (bas i))) rfl (fun n' hn' => spec_l01Basis i _ _ (by omega)) ?_
        (repeat first|refine zG ?_|(refine LS.nilO ?_;intro nq hnq hltq;try refine zU ?_)|(refine MS.new ?_;intro bq hbq hbqf;try refine zU ?_)|(refine MS.nil ?_;intro nq hnq hltq;have hlq:=hltq _ _ (Hp.get_eq _ _ _);clear hltq;try refine zU ?_)|(refine LS.nilQ ?_;try with_reducible intro nq hnq;try refine zU ?_))
        refine LS.callQ (.arr 8 (bys (pr p m (bas i) u a))) rfl (fun n' hn' => spec_l01Times p a m (bas i) u _ _ _ hp ha h0 h1 hK hm (bas_by _ _) hu) ?_
        (repeat first|refine zG ?_|(refine LS.nilO ?_;intro nq hnq hltq;try refine zU ?_)|(refine MS.new ?_;intro bq hbq hbqf;try refine zU ?_)|(refine MS.nil ?_;intro nq hnq hltq;have hlq:=hltq _ _ (Hp.get_eq _ _ _);clear hltq;try refine zU ?_)|(refine LS.nilQ ?_;try with_reducible intro nq hnq;try refine zU ?_))
        refine LS.callQ (.arr 8 (bys (bas i))) rfl (fun n' hn' => spec_l01Basis i _ _ (by omega)) ?_
        (repeat first|refine zG ?_|(refine LS.nilO ?_;intro nq hnq hltq;try refine zU ?_)|(refine MS.new ?_;intro bq hbq hbqf;try refine zU ?_)|(refine MS.nil ?_;intro nq hnq hltq;have hlq:=hltq _ _ (Hp.get_eq _ _ _);clear hltq;try refine zU ?_)|(refine LS.nilQ ?_;try with_reducible intro nq hnq;try refine zU ?_))
        refine zI ?_ ?_<;>intro h5
        · (repeat first|refine zG ?_|(refine LS.nilO ?_;intro nq hnq hltq;try refine zU ?_)|(refine MS.new ?_;intro bq hbq hbqf;try refine zU ?_)|(refine MS.nil ?_;intro nq hnq hltq;have hlq:=hltq _ _ (Hp.get_eq _ _ _);clear hltq;try refine zU ?_)|(refine LS.nilQ ?_;try with_reducible intro nq hnq;try refine zU ?_))
          exact ⟨_, H, rfl, by exact zD, by rw [tb_false (fun h => h5 (h.2.1 i (by omega)).2)], rfl⟩
        · (repeat first|refine zG ?_|(refine LS.nilO ?_;intro nq hnq hltq;try refine zU ?_)|(refine MS.new ?_;intro bq hbq hbqf;try refine zU ?_)|(refine MS.nil ?_;intro nq hnq hltq;have hlq:=hltq _ _ (Hp.get_eq _ _ _);clear hltq;try refine zU ?_)|(refine LS.nilQ ?_;try with_reducible intro nq hnq;try refine zU ?_))
          refine ⟨by omega, by (repeat first | exact trivial | refine And.intro rfl ?_), by exact zD, fun i' hi' => ?_⟩
          by_cases e : i' = i
          · subst e; exact ⟨h4, h5⟩
          · exact hJ i' (by omega)
    · have : i = a := by omega
      subst this
      (repeat first|refine zG ?_|(refine LS.nilO ?_;intro nq hnq hltq;try refine zU ?_)|(refine MS.new ?_;intro bq hbq hbqf;try refine zU ?_)|(refine MS.nil ?_;intro nq hnq hltq;have hlq:=hltq _ _ (Hp.get_eq _ _ _);clear hltq;try refine zU ?_)|(refine LS.nilQ ?_;try with_reducible intro nq hnq;try refine zU ?_))
      refine RS.call rfl ((spec_l01Fault p i m _ _ _ hp ha h0 h1 hK hm).mono ?_)
      rintro r H n4 hn4 ⟨⟨s, rfl⟩, rfl⟩
      (repeat first|refine zG ?_|(refine LS.nilO ?_;intro nq hnq hltq;try refine zU ?_)|(refine MS.new ?_;intro bq hbq hbqf;try refine zU ?_)|(refine MS.nil ?_;intro nq hnq hltq;have hlq:=hltq _ _ (Hp.get_eq _ _ _);clear hltq;try refine zU ?_)|(refine LS.nilQ ?_;try with_reducible intro nq hnq;try refine zU ?_))
      exact ⟨_, H, rfl, by exact zD, by
        rw [Bool.not_not]
        exact congrArg bl (tb_iff ⟨fun h => isAlg_nat.2 ⟨h2, fun i' h => hJ i' h, h⟩, fun h => h.2.2⟩), rfl⟩
/-- impl.IsCoalgebra -/
def ir107 : Cd := (.seq (.reg [⟨some 1,none,.box 46 (.t 0)⟩,⟨some 2,none,.mov (.c (.bool false))⟩]) (.seq (.reg [⟨some 3,none,.call 103 [(.t 1)]⟩,⟨some 4,none,.mov (.t 3)⟩,⟨some 5,(some (4,true)),.call 126 [(.t 1)]⟩,⟨some 6,none,.pick (.t 4) (.t 5) (.c (.bool false))⟩,⟨some 7,none,.mov (.t 6)⟩,⟨some 8,(some (7,true)),.call 127 [(.t 1)]⟩,⟨some 9,(some (7,true)),.snil false (.t 8)⟩,⟨some 10,none,.pick (.t 7) (.t 9) (.c (.bool false))⟩,⟨some 2,none,.mov (.t 10)⟩]) .ret))
set_option maxRecDepth 100000 in
theorem tr107 : trFn Tryz.prog Tryz.f107 = some (11, ir107, [.tmp 2]) := by kernel_rfl
theorem impl_IsCoalgebra (p n' : Int) (u m : Nat → Int) (K : Nat → SV) (H : Hp) (n : Nat) (h0 : K 0 = .int .i64 p) (h1 : K 1 = .int .i64 n')
    (hU : ∀ q, q < 8 → K (2 + q) = .int .u8 (u q)) (hK : ∀ q, q < 512 → K (10 + q) = .int .u8 (m q)) (hu : isBy 8 u) (hm : isBy 512 m) :
    FnS Tryz.prog 107 [.arr 522 K] H n (fun v H' _ => v = bl (tb (isCoalg p n' u m)) ∧ H' = H) := by
  refine FnS.of_body Tryz.func107 tr107 (by simp) (fun hf => ?_)
  dsimp only [argEnv]
  unfold ir107
  (repeat first|refine zG ?_|(refine LS.nilO ?_;intro nq hnq hltq;try refine zU ?_)|(refine MS.new ?_;intro bq hbq hbqf;try refine zU ?_)|(refine MS.nil ?_;intro nq hnq hltq;have hlq:=hltq _ _ (Hp.get_eq _ _ _);clear hltq;try refine zU ?_)|(refine LS.nilQ ?_;try with_reducible intro nq hnq;try refine zU ?_))
  refine RS.call rfl ((Coalgebra_isShaped p n' u m n _ _ _ (by exact zH) rfl h0 h1 hU hK hu hm).mono ?_)
  rintro r H n2 hn2 ⟨rfl, rfl⟩
  (repeat first|refine zG ?_|(refine LS.nilO ?_;intro nq hnq hltq;try refine zU ?_)|(refine MS.new ?_;intro bq hbq hbqf;try refine zU ?_)|(refine MS.nil ?_;intro nq hnq hltq;have hlq:=hltq _ _ (Hp.get_eq _ _ _);clear hltq;try refine zU ?_)|(refine LS.nilQ ?_;try with_reducible intro nq hnq;try refine zU ?_))
  refine RS.sp (t := 4) rfl (fun h2 => ?_) (fun h2 => ?_) <;> (try simp only [tb_eq, tb_eqF, decide_eq_true_eq, decide_eq_false_iff_not, beq_iff_eq, bne_iff_ne, ne_eq, Decidable.not_not, beq_eq_false_iff_ne, bne_eq_false_iff_eq, Bool.not_eq_true', Bool.not_eq_false', Bool.not_eq_eq_eq_not, Bool.not_true, Bool.not_false] at h2)
  · obtain ⟨hz1, hz2, hz3⟩ := h2.1
    obtain ⟨a, rfl⟩ := Int.eq_ofNat_of_zero_le (show 0 ≤ n' by omega)
    have hp := isP_le hz1
    have ha : a ≤ 8 := by omega
    (repeat first|refine zG ?_|(refine LS.nilO ?_;intro nq hnq hltq;try refine zU ?_)|(refine MS.new ?_;intro bq hbq hbqf;try refine zU ?_)|(refine MS.nil ?_;intro nq hnq hltq;have hlq:=hltq _ _ (Hp.get_eq _ _ _);clear hltq;try refine zU ?_)|(refine LS.nilQ ?_;try with_reducible intro nq hnq;try refine zU ?_))
    refine RS.call rfl ((Coalgebra_isCounit p a u m n _ _ _ hp ha (by exact zH) rfl h0 h1 hU hK hu hm).mono ?_)
    rintro r H n3 hn3 ⟨rfl, rfl⟩
    (repeat first|refine zG ?_|(refine LS.nilO ?_;intro nq hnq hltq;try refine zU ?_)|(refine MS.new ?_;intro bq hbq hbqf;try refine zU ?_)|(refine MS.nil ?_;intro nq hnq hltq;have hlq:=hltq _ _ (Hp.get_eq _ _ _);clear hltq;try refine zU ?_)|(refine LS.nilQ ?_;try with_reducible intro nq hnq;try refine zU ?_))
    refine RS.sp (t := 7) rfl (fun h3 => ?_) (fun h3 => ?_) <;> (try simp only [tb_eq, tb_eqF, decide_eq_true_eq, decide_eq_false_iff_not, beq_iff_eq, bne_iff_ne, ne_eq, Decidable.not_not, beq_eq_false_iff_ne, bne_eq_false_iff_eq, Bool.not_eq_true', Bool.not_eq_false', Bool.not_eq_eq_eq_not, Bool.not_true, Bool.not_false] at h3)
    · (repeat first|refine zG ?_|(refine LS.nilO ?_;intro nq hnq hltq;try refine zU ?_)|(refine MS.new ?_;intro bq hbq hbqf;try refine zU ?_)|(refine MS.nil ?_;intro nq hnq hltq;have hlq:=hltq _ _ (Hp.get_eq _ _ _);clear hltq;try refine zU ?_)|(refine LS.nilQ ?_;try with_reducible intro nq hnq;try refine zU ?_))
      refine RS.call rfl ((Coalgebra_fault p a m n _ _ _ hp (by omega) ha (by exact zH) rfl h0 h1 hK hm).mono ?_)
      rintro r H n4 hn4 ⟨⟨rfl, h6⟩ | ⟨⟨b1, o1, l1, c1, rfl⟩, h6⟩, rfl⟩
      · (repeat first|refine zG ?_|(refine LS.nilO ?_;intro nq hnq hltq;try refine zU ?_)|(refine MS.new ?_;intro bq hbq hbqf;try refine zU ?_)|(refine MS.nil ?_;intro nq hnq hltq;have hlq:=hltq _ _ (Hp.get_eq _ _ _);clear hltq;try refine zU ?_)|(refine LS.nilQ ?_;try with_reducible intro nq hnq;try refine zU ?_))
        exact ⟨_, H, rfl, by exact zD, by rw [tb_true (isCoalg_nat.2 ⟨h2, h3, h6⟩)]; rfl, rfl⟩
      · (repeat first|refine zG ?_|(refine LS.nilO ?_;intro nq hnq hltq;try refine zU ?_)|(refine MS.new ?_;intro bq hbq hbqf;try refine zU ?_)|(refine MS.nil ?_;intro nq hnq hltq;have hlq:=hltq _ _ (Hp.get_eq _ _ _);clear hltq;try refine zU ?_)|(refine LS.nilQ ?_;try with_reducible intro nq hnq;try refine zU ?_))
        exact ⟨_, H, rfl, by exact zD, by rw [tb_false (fun h => h6 h.2.2)], rfl⟩
    · (repeat first|refine zG ?_|(refine LS.nilO ?_;intro nq hnq hltq;try refine zU ?_)|(refine MS.new ?_;intro bq hbq hbqf;try refine zU ?_)|(refine MS.nil ?_;intro nq hnq hltq;have hlq:=hltq _ _ (Hp.get_eq _ _ _);clear hltq;try refine zU ?_)|(refine LS.nilQ ?_;try with_reducible intro nq hnq;try refine zU ?_))
      exact ⟨_, H, rfl, by exact zD, by rw [tb_false (fun h => h3 h.2.1)], rfl⟩
  · (repeat first|refine zG ?_|(refine LS.nilO ?_;intro nq hnq hltq;try refine zU ?_)|(refine MS.new ?_;intro bq hbq hbqf;try refine zU ?_)|(refine MS.nil ?_;intro nq hnq hltq;have hlq:=hltq _ _ (Hp.get_eq _ _ _);clear hltq;try refine zU ?_)|(refine LS.nilQ ?_;try with_reducible intro nq hnq;try refine zU ?_))
    exact ⟨_, H, rfl, by exact zD, by rw [tb_false (fun h => h2 h.1)], rfl⟩
end Go.Proofs.YtbknndbfbebkdabGreatR
