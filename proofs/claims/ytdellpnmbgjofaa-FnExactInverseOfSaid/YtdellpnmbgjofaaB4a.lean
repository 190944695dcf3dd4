/- Contracts of the program's functions. -/
import Derived.Test.YtdellpnmbgjofaaR
import Derived.Test.YtdellpnmbgjofaaB3a
import Derived.Test.YtdellpnmbgjofaaB3c
namespace Go.Proofs.Ytdellpnmbgjofaa
open Go.V
set_option linter.unusedSimpArgs false
set_option linter.unusedVariables false
set_option maxHeartbeats 4000000
/-- spec.l01Is -/
def ir21 : Cd := (.seq (.reg [⟨some 1,none,.box 35 (.t 0)⟩,⟨some 2,none,.mov (.c (.bool false))⟩]) (.seq (.seq (.reg [⟨some 6,none,.ld (some 522) (.t 1)⟩,⟨some 7,none,.call 41 [(.t 6)]⟩,⟨some 8,none,.un .not (.t 7)⟩]) (.cond (.t 8) (.seq (.reg [⟨some 2,none,.mov (.c (.bool false))⟩]) .ret) .skip)) (.seq (.seq (.reg [⟨some 3,none,.mov (.c (.int .i64 0))⟩]) (.block 0 (.loop (.seq (.seq (.reg [⟨some 9,none,.mov (.t 3)⟩,⟨some 10,none,.fa 1 (.t 1)⟩,⟨some 11,none,.ld none (.t 10)⟩,⟨some 12,none,.bin .lss (.t 9) (.t 11)⟩]) (.cond (.t 12) .skip (.exit 0))) (.seq (.block 1 (.seq (.drwo true [17] [0,1,2,3,6,4,5,7,8,9,10,11,13,14,16,12,15,17,18,19] [⟨some 15,none,.ld (some 522) (.t 1)⟩,⟨some 16,none,.fa 2 (.t 1)⟩,⟨some 17,none,.ld (some 8) (.t 16)⟩,⟨some 18,none,.mov (.t 3)⟩,⟨some 19,none,.call 27 [(.t 18)]⟩,⟨some 20,none,.call 12 [(.t 15),(.t 17),(.t 19)]⟩,⟨some 21,none,.mov (.t 3)⟩,⟨some 22,none,.call 27 [(.t 21)]⟩,⟨some 23,none,.eqa true 8 (.t 20) (.t 22)⟩,⟨some 24,none,.mov (.t 23)⟩,⟨some 25,(some (24,false)),.ld (some 522) (.t 1)⟩,⟨some 26,(some (24,false)),.mov (.t 3)⟩,⟨some 27,(some (24,false)),.call 27 [(.t 26)]⟩,⟨some 28,(some (24,false)),.fa 2 (.t 1)⟩,⟨some 29,(some (24,false)),.ld (some 8) (.t 28)⟩,⟨some 30,(some (24,false)),.call 12 [(.t 25),(.t 27),(.t 29)]⟩,⟨some 31,(some (24,false)),.mov (.t 3)⟩,⟨some 32,(some (24,false)),.call 27 [(.t 31)]⟩,⟨some 33,(some (24,false)),.eqa true 8 (.t 30) (.t 32)⟩,⟨some 34,none,.pick (.t 24) (.c (.bool true)) (.t 33)⟩]) (.cond (.t 34) (.seq (.reg [⟨some 2,none,.mov (.c (.bool false))⟩]) .ret) .skip))) (.reg [⟨some 13,none,.mov (.t 3)⟩,⟨some 14,none,.bin .add (.t 13) (.c (.int .i64 1))⟩,⟨some 3,none,.mov (.t 14)⟩])))))) (.seq (.reg [⟨some 36,none,.ld (some 522) (.t 1)⟩,⟨some 37,none,.call 42 [(.t 36)]⟩,⟨some 35,none,.mov (.t 37)⟩,⟨some 38,none,.ex (.t 35) 0⟩,⟨some 39,none,.ex (.t 35) 1⟩,⟨some 4,none,.mov (.t 38)⟩,⟨some 5,none,.mov (.t 39)⟩]) (.seq (.reg [⟨some 40,none,.mov (.t 5)⟩,⟨some 41,none,.un .not (.t 40)⟩,⟨some 2,none,.mov (.t 41)⟩]) .ret)))))
set_option maxRecDepth 100000 in
theorem tr21 : trFn Try.prog Try.f21 = some (42, ir21, [.tmp 2]) := by kernel_rfl
theorem spec_l01Is (p n' : Int) (u m : Nat → Int) (K : Nat → SV) (H : Hp) (n : Nat) (h0 : K 0 = .int .i64 p) (h1 : K 1 = .int .i64 n')
    (hU : ∀ q, q < 8 → K (2 + q) = .int .u8 (u q)) (hK : ∀ q, q < 512 → K (10 + q) = .int .u8 (m q)) (hu : isBy 8 u) (hm : isBy 512 m) :
    FnS Try.prog 21 [.arr 522 K] H n (fun v H' _ => v = bl (tb (isAlg p n' u m)) ∧ H' = H) := by
  refine FnS.of_body Try.func21 tr21 (by simp) (fun hf => ?_)
  dsimp only [argEnv]
  unfold ir21
  (repeat first|refine zG ?_|(refine LS.nilO ?_;intro nq hnq hltq;try refine zU ?_)|(refine MS.new ?_;intro bq hbq hbqf;try refine zU ?_)|(refine MS.nil ?_;intro nq hnq hltq;have hlq:=hltq _ _ (Hp.get_eq _ _ _);clear hltq;try refine zU ?_)|(refine LS.nilQ ?_;try with_reducible intro nq hnq;try refine zU ?_))
  refine RS.call rfl ((FnS.args (concs_cons (conc_arr (fun q hq => rfl)) rfl) (spec_l01Shape p n' u m K _ _ h0 h1 hU hK hu hm)).mono ?_)
  rintro r H n2 hn2 ⟨rfl, rfl⟩
  (repeat first|refine zG ?_|(refine LS.nilO ?_;intro nq hnq hltq;try refine zU ?_)|(refine MS.new ?_;intro bq hbq hbqf;try refine zU ?_)|(refine MS.nil ?_;intro nq hnq hltq;have hlq:=hltq _ _ (Hp.get_eq _ _ _);clear hltq;try refine zU ?_)|(refine LS.nilQ ?_;try with_reducible intro nq hnq;try refine zU ?_))
  refine zI ?_ ?_<;>intro h2
  · (repeat first|refine zG ?_|(refine LS.nilO ?_;intro nq hnq hltq;try refine zU ?_)|(refine MS.new ?_;intro bq hbq hbqf;try refine zU ?_)|(refine MS.nil ?_;intro nq hnq hltq;have hlq:=hltq _ _ (Hp.get_eq _ _ _);clear hltq;try refine zU ?_)|(refine LS.nilQ ?_;try with_reducible intro nq hnq;try refine zU ?_))
    exact ⟨_, H, rfl, by exact zD, by rw [tb_false (fun h => h2 h.1)], rfl⟩
  · obtain ⟨hz1, hz2, hz3⟩ := h2.1
    obtain ⟨a, rfl⟩ := Int.eq_ofNat_of_zero_le (show 0 ≤ n' by omega)
    have hp := isP_le hz1
    have ha : a ≤ 8 := by omega
    (repeat first|refine zG ?_|(refine LS.nilO ?_;intro nq hnq hltq;try refine zU ?_)|(refine MS.new ?_;intro bq hbq hbqf;try refine zU ?_)|(refine MS.nil ?_;intro nq hnq hltq;have hlq:=hltq _ _ (Hp.get_eq _ _ _);clear hltq;try refine zU ?_)|(refine LS.nilQ ?_;try with_reducible intro nq hnq;try refine zU ?_))
    refine CS.iter a (fun i => [(3, i64 i), (1, ptr n 0)]) (fun _ => (n, ⟨522, K, 35⟩) :: H)
      (fun i => ∀ i' : Nat, i' < i → (∀ q, q < 8 → pr p m u (bas i') a q = bas i' q) ∧ (∀ q, q < 8 → pr p m (bas i') u a q = bas i' q)) (by (repeat first | exact trivial | refine And.intro rfl ?_)) (Drops.refl _ _) (fun _ h => by omega) ?_
    intro i n3 hi hn hJ
    (repeat first|refine zG ?_|(refine LS.nilO ?_;intro nq hnq hltq;try refine zU ?_)|(refine MS.new ?_;intro bq hbq hbqf;try refine zU ?_)|(refine MS.nil ?_;intro nq hnq hltq;have hlq:=hltq _ _ (Hp.get_eq _ _ _);clear hltq;try refine zU ?_)|(refine LS.nilQ ?_;try with_reducible intro nq hnq;try refine zU ?_))
    refine zI ?_ ?_<;>intro h3
    · (repeat first|refine zG ?_|(refine LS.nilO ?_;intro nq hnq hltq;try refine zU ?_)|(refine MS.new ?_;intro bq hbq hbqf;try refine zU ?_)|(refine MS.nil ?_;intro nq hnq hltq;have hlq:=hltq _ _ (Hp.get_eq _ _ _);clear hltq;try refine zU ?_)|(refine LS.nilQ ?_;try with_reducible intro nq hnq;try refine zU ?_))
      refine CS.quietLo ?_
      (repeat first|refine zG ?_|(refine LS.nilO ?_;intro nq hnq hltq;try refine zU ?_)|(refine MS.new ?_;intro bq hbq hbqf;try refine zU ?_)|(refine MS.nil ?_;intro nq hnq hltq;have hlq:=hltq _ _ (Hp.get_eq _ _ _);clear hltq;try refine zU ?_)|(refine LS.nilQ ?_;try with_reducible intro nq hnq;try refine zU ?_))
      refine LS.callQ (.arr 8 (bys (bas i))) rfl (fun n' hn' => spec_l01Basis i _ _ (by omega)) ?_
      (repeat first|refine zG ?_|(refine LS.nilO ?_;intro nq hnq hltq;try refine zU ?_)|(refine MS.new ?_;intro bq hbq hbqf;try refine zU ?_)|(refine MS.nil ?_;intro nq hnq hltq;have hlq:=hltq _ _ (Hp.get_eq _ _ _);clear hltq;try refine zU ?_)|(refine LS.nilQ ?_;try with_reducible intro nq hnq;try refine zU ?_))
      refine LS.callQ (.arr 8 (bys (pr p m u (bas i) a))) rfl (fun n' hn' => spec_l01Times p a m u (bas i) _ _ _ hp ha h0 h1 hK hm hu (bas_by _ _)) ?_
      (repeat first|refine zG ?_|(refine LS.nilO ?_;intro nq hnq hltq;try refine zU ?_)|(refine MS.new ?_;intro bq hbq hbqf;try refine zU ?_)|(refine MS.nil ?_;intro nq hnq hltq;have hlq:=hltq _ _ (Hp.get_eq _ _ _);clear hltq;try refine zU ?_)|(refine LS.nilQ ?_;try with_reducible intro nq hnq;try refine zU ?_))
      refine LS.callQ (.arr 8 (bys (bas i))) rfl (fun n' hn' => spec_l01Basis i _ _ (by omega)) ?_
      (repeat first|refine zG ?_|(refine LS.nilO ?_;intro nq hnq hltq;try refine zU ?_)|(refine MS.new ?_;intro bq hbq hbqf;try refine zU ?_)|(refine MS.nil ?_;intro nq hnq hltq;have hlq:=hltq _ _ (Hp.get_eq _ _ _);clear hltq;try refine zU ?_)|(refine LS.nilQ ?_;try with_reducible intro nq hnq;try refine zU ?_))
      refine RS.sp (t := 24) rfl (fun h4 => ?_) (fun h4 => ?_) <;> (try simp only [tb_eq, tb_eqF, decide_eq_true_eq, decide_eq_false_iff_not, beq_iff_eq, bne_iff_ne, ne_eq, Decidable.not_not, beq_eq_false_iff_ne, bne_eq_false_iff_eq, Bool.not_eq_true', Bool.not_eq_false', Bool.not_eq_eq_eq_not, Bool.not_true, Bool.not_false] at h4)
      · (repeat first|refine zG ?_|(refine LS.nilO ?_;intro nq hnq hltq;try refine zU ?_)|(refine MS.new ?_;intro bq hbq hbqf;try refine zU ?_)|(refine MS.nil ?_;intro nq hnq hltq;have hlq:=hltq _ _ (Hp.get_eq _ _ _);clear hltq;try refine zU ?_)|(refine LS.nilQ ?_;try with_reducible intro nq hnq;try refine zU ?_))
        exact ⟨_, H, rfl, by exact zD, by rw [tb_false (fun h => h4 (h.2.1 i (by omega)).1)], rfl⟩
      · (repeat first|refine zG ?_|(refine LS.nilO ?_;intro nq hnq hltq;try refine zU ?_)|(refine MS.new ?_;intro bq hbq hbqf;try refine zU ?_)|(refine MS.nil ?_;intro nq hnq hltq;have hlq:=hltq _ _ (Hp.get_eq _ _ _);clear hltq;try refine zU ?_)|(refine LS.nilQ ?_;try with_reducible intro nq hnq;try refine zU ?_))
        refine LS.callQ (.arr 8 (bys (bas i))) rfl (fun n' hn' => spec_l01Basis i _ _ (by omega)) ?_
        (repeat first|refine zG ?_|(refine LS.nilO ?_;intro nq hnq hltq;try refine zU ?_)|(refine MS.new ?_;intro bq hbq hbqf;try refine zU ?_)|(refine MS.nil ?_;intro nq hnq hltq;have hlq:=hltq _ _ (Hp.get_eq _ _ _);clear hltq;try refine zU ?_)|(refine LS.nilQ ?_;try with_reducible intro nq hnq;try refine zU ?_))
        refine LS.callQ (.arr 8 (bys (pr p m (bas i) u a))) rfl (fun n' hn' => spec_l01Times p a m (bas i) u _ _ _ hp ha h0 h1 hK hm (bas_by _ _) hu) ?_
        (repeat first|refine zG ?_|(refine LS.nilO ?_;intro nq hnq hltq;try refine zU ?_)|(refine MS.new ?_;intro bq hbq hbqf;try refine zU ?_)|(refine MS.nil ?_;intro nq hnq hltq;have hlq:=hltq _ _ (Hp.get_eq _ _ _);clear hltq;try refine zU ?_)|(refine LS.nilQ ?_;try with_reducible intro nq hnq;try refine zU ?_))
        refine LS.callQ (.arr 8 (bys (bas i))) rfl (fun n' hn' => spec_l01Basis i _ _ (by omega)) ?_
        (repeat first|refine zG ?_|(refine LS.nilO ?_;intro nq hnq hltq;try refine zU ?_)|(refine MS.new ?_;intro bq hbq hbqf;try refine zU ?_)|(refine MS.nil ?_;intro nq hnq hltq;have hlq:=hltq _ _ (Hp.get_eq _ _ _);clear hltq;try refine zU ?_)|(refine LS.nilQ ?_;try with_reducible intro nq hnq;try refine zU ?_))
        refine zI ?_ ?_<;>intro h5
        · (repeat first|refine zG ?_|(refine LS.nilO ?_;intro nq hnq hltq;try refine zU ?_)|(refine MS.new ?_;intro bq hbq hbqf;try refine zU ?_)|(refine MS.nil ?_;intro nq hnq hltq;have hlq:=hltq _ _ (Hp.get_eq _ _ _);clear hltq;try refine zU ?_)|(refine LS.nilQ ?_;try with_reducible intro nq hnq;try refine zU ?_))
          exact ⟨_, H, rfl, by exact zD, by rw [tb_false (fun h => h5 (h.2.1 i (by omega)).2)], rfl⟩
        · (repeat first|refine zG ?_|(refine LS.nilO ?_;intro nq hnq hltq;try refine zU ?_)|(refine MS.new ?_;intro bq hbq hbqf;try refine zU ?_)|(refine MS.nil ?_;intro nq hnq hltq;have hlq:=hltq _ _ (Hp.get_eq _ _ _);clear hltq;try refine zU ?_)|(refine LS.nilQ ?_;try with_reducible intro nq hnq;try refine zU ?_))
          refine ⟨by omega, by (repeat first | exact trivial | refine And.intro rfl ?_), by exact zD, fun i' hi' => ?_⟩
          by_cases e : i' = i
          · subst e; exact ⟨h4, h5⟩
          · exact hJ i' (by omega)
    · have : i = a := by omega
      subst this
      (repeat first|refine zG ?_|(refine LS.nilO ?_;intro nq hnq hltq;try refine zU ?_)|(refine MS.new ?_;intro bq hbq hbqf;try refine zU ?_)|(refine MS.nil ?_;intro nq hnq hltq;have hlq:=hltq _ _ (Hp.get_eq _ _ _);clear hltq;try refine zU ?_)|(refine LS.nilQ ?_;try with_reducible intro nq hnq;try refine zU ?_))
      refine RS.call rfl ((spec_l01Fault p i m _ _ _ hp ha h0 h1 hK hm).mono ?_)
      rintro r H n4 hn4 ⟨⟨s, rfl⟩, rfl⟩
      (repeat first|refine zG ?_|(refine LS.nilO ?_;intro nq hnq hltq;try refine zU ?_)|(refine MS.new ?_;intro bq hbq hbqf;try refine zU ?_)|(refine MS.nil ?_;intro nq hnq hltq;have hlq:=hltq _ _ (Hp.get_eq _ _ _);clear hltq;try refine zU ?_)|(refine LS.nilQ ?_;try with_reducible intro nq hnq;try refine zU ?_))
      exact ⟨_, H, rfl, by exact zD, by
        rw [Bool.not_not]
        exact congrArg bl (tb_iff ⟨fun h => isAlg_nat.2 ⟨h2, fun i' h => hJ i' h, h⟩, fun h => h.2.2⟩), rfl⟩
end Go.Proofs.Ytdellpnmbgjofaa
