/- Quotients of modules, the reference's. -/
import Derived.Test.YtkmfdhicjaccaaaGreatJbu
set_option linter.unusedSectionVars false
set_option linter.unusedVariables false
set_option linter.unusedSimpArgs false

namespace Go.V

set_option linter.unusedSimpArgs false

set_option linter.unusedVariables false

/-- Which places are first ones of the first i vectors. -/
noncomputable def ldb (P : Nat → Nat) (i : Nat) : Nat → SV := fun q => .bool (tb (∃ j, j < i ∧ P j = q))

theorem ldb_step (P : Nat → Nat) (i q : Nat) : put1 (ldb P i) (P i) (.bool true) q = ldb P (i + 1) q := by
  unfold put1 ldb
  by_cases e : q = P i
  · rw [if_pos e, tb_true (show ∃ j, j < i + 1 ∧ P j = q from ⟨i, by omega, e.symm⟩)]
  · rw [if_neg e]
    refine congrArg SV.bool (tb_iff ⟨fun ⟨j, h1, h2⟩ => ⟨j, by omega, h2⟩, fun ⟨j, h1, h2⟩ => ⟨j, ?_, h2⟩⟩)
    rcases Nat.lt_or_ge j i with h3 | h3
    · exact h3
    · obtain rfl : j = i := by omega
      exact absurd h2.symm e

theorem cto_cell (Y : Nat → Int) (d : Int) (n q : Nat) : put1 (modC d (cto Y n)) (1 + n) (.int .u8 (Y n)) q = modC d (cto Y (n + 1)) q := by
  unfold put1 modC cto
  by_cases e : q = 1 + n
  · rw [if_pos e, if_neg (by omega), if_pos (by omega), show q - 1 = n by omega]
  · rw [if_neg e]
    by_cases e0 : q = 0
    · rw [if_pos e0, if_pos e0]
    · rw [if_neg e0, if_neg e0]
      by_cases e2 : q - 1 < n
      · rw [if_pos e2, if_pos (by omega)]
      · rw [if_neg e2, if_neg (by omega)]

end Go.V

namespace Go.Proofs.YtkmfdhicjaccaaaGreat

open Go.V

variable [BW]

set_option linter.unusedSimpArgs false

set_option linter.unusedVariables false

set_option maxHeartbeats 4000000

/-- spec.QuotientModule -/
def ir6 : Cd := (.seq (.reg [⟨some 3,none,.box 41 (.t 0)⟩,⟨some 4,none,.box 36 (.t 1)⟩,⟨some 6,none,.new 36 [(1,(.int .i64 0)),(512,(.int .u8 0))]⟩,⟨some 7,none,.mov (.c (.int .i64 0))⟩]) (.seq (.seq (.reg [⟨some 19,none,.ld (some 1106) (.t 3)⟩,⟨some 20,none,.ld (some 513) (.t 4)⟩,⟨some 21,none,.mov (.t 2)⟩,⟨some 22,none,.call 18 [(.t 19),(.t 20),(.t 21)]⟩,⟨some 8,none,.mov (.t 22)⟩]) (.seq (.reg [⟨some 23,none,.mov (.t 8)⟩,⟨some 24,none,.bin .neq (.t 23) (.c (.int .i64 0))⟩]) (.cond (.t 24) (.seq (.reg [⟨some 25,none,.build 513 [(1,(.int .i64 0)),(512,(.int .u8 0))] []⟩,⟨some 26,none,.mov (.t 8)⟩,⟨none,none,.st 513 (.t 6) (.t 25)⟩,⟨some 7,none,.mov (.t 26)⟩]) .ret) .skip))) (.seq (.reg [⟨some 27,none,.fa 0 (.t 3)⟩,⟨some 28,none,.ld none (.t 27)⟩,⟨some 29,none,.mov (.t 2)⟩,⟨some 30,none,.call 19 [(.t 28),(.t 29)]⟩,⟨some 31,none,.build 8 [(8,(.bool false))] []⟩,⟨some 32,none,.bsl 2 0 1 [(1,(.int .i64 0))] []⟩,⟨some 10,none,.new 55 [(8,(.bool false))]⟩,⟨some 9,none,.mov (.t 30)⟩,⟨none,none,.st 8 (.t 10) (.t 31)⟩,⟨some 11,none,.mov (.t 32)⟩]) (.seq (.seq (.reg [⟨some 12,none,.mov (.c (.int .i64 0))⟩]) (.block 0 (.loop (.seq (.seq (.reg [⟨some 33,none,.mov (.t 12)⟩,⟨some 34,none,.mov (.t 9)⟩,⟨some 35,none,.len (.t 34)⟩,⟨some 36,none,.bin .lss (.t 33) (.t 35)⟩]) (.cond (.t 36) .skip (.exit 0))) (.seq (.block 1 (.reg [⟨some 39,none,.mov (.t 9)⟩,⟨some 40,none,.mov (.t 12)⟩,⟨some 41,none,.isl 8 (.t 39) (.t 40)⟩,⟨some 42,none,.ld (some 8) (.t 41)⟩,⟨some 43,none,.call 20 [(.t 42)]⟩,⟨some 44,none,.ia 8 1 (.t 10) (.t 43)⟩,⟨none,none,.st 1 (.t 44) (.c (.bool true))⟩])) (.reg [⟨some 37,none,.mov (.t 12)⟩,⟨some 38,none,.bin .add (.t 37) (.c (.int .i64 1))⟩,⟨some 12,none,.mov (.t 38)⟩])))))) (.seq (.seq (.reg [⟨some 13,none,.mov (.c (.int .i64 0))⟩]) (.block 2 (.loop (.seq (.seq (.reg [⟨some 45,none,.mov (.t 13)⟩,⟨some 46,none,.fa 0 (.t 4)⟩,⟨some 47,none,.ld none (.t 46)⟩,⟨some 48,none,.bin .lss (.t 45) (.t 47)⟩]) (.cond (.t 48) .skip (.exit 2))) (.seq (.block 3 (.seq (.reg [⟨some 51,none,.mov (.t 13)⟩,⟨some 52,none,.ia 8 1 (.t 10) (.t 51)⟩,⟨some 53,none,.ld none (.t 52)⟩,⟨some 54,none,.un .not (.t 53)⟩]) (.cond (.t 54) (.reg [⟨some 55,none,.mov (.t 11)⟩,⟨some 56,none,.mov (.t 13)⟩,⟨some 57,none,.bsl 2 1 1 [(1,(.int .i64 0))] [(0,1,(.t 56))]⟩,⟨some 58,none,.app 2 1 8 [(1,(.int .i64 0))] (.t 55) (.t 57)⟩,⟨some 11,none,.mov (.t 58)⟩]) .skip))) (.reg [⟨some 49,none,.mov (.t 13)⟩,⟨some 50,none,.bin .add (.t 49) (.c (.int .i64 1))⟩,⟨some 13,none,.mov (.t 50)⟩])))))) (.seq (.seq (.reg [⟨some 59,none,.mov (.t 11)⟩,⟨some 60,none,.len (.t 59)⟩,⟨some 61,none,.bin .eql (.t 60) (.c (.int .i64 0))⟩,⟨some 62,none,.mov (.t 61)⟩,⟨some 63,(some (62,false)),.ld (some 1106) (.t 3)⟩,⟨some 64,(some (62,false)),.ld (some 513) (.t 4)⟩,⟨some 65,(some (62,false)),.mov (.t 9)⟩,⟨some 66,(some (62,false)),.call 21 [(.t 63),(.t 64),(.t 65)]⟩,⟨some 67,(some (62,false)),.un .not (.t 66)⟩,⟨some 68,none,.pick (.t 62) (.c (.bool true)) (.t 67)⟩]) (.cond (.t 68) (.seq (.reg [⟨some 69,none,.build 513 [(1,(.int .i64 0)),(512,(.int .u8 0))] []⟩,⟨none,none,.st 513 (.t 6) (.t 69)⟩,⟨some 7,none,.mov (.c (.int .i64 5))⟩]) .ret) .skip)) (.seq (.reg [⟨some 70,none,.mov (.t 11)⟩,⟨some 71,none,.len (.t 70)⟩,⟨some 72,none,.build 513 [(1,(.int .i64 0)),(512,(.int .u8 0))] [(0,1,(.t 71))]⟩,⟨some 14,none,.new 36 [(1,(.int .i64 0)),(512,(.int .u8 0))]⟩,⟨none,none,.st 513 (.t 14) (.t 72)⟩]) (.seq (.seq (.reg [⟨some 15,none,.mov (.c (.int .i64 0))⟩]) (.block 4 (.loop (.seq (.seq (.reg [⟨some 73,none,.mov (.t 15)⟩,⟨some 74,none,.fa 1 (.t 3)⟩,⟨some 75,none,.ld none (.t 74)⟩,⟨some 76,none,.bin .lss (.t 73) (.t 75)⟩]) (.cond (.t 76) .skip (.exit 4))) (.seq (.block 5 (.seq (.reg [⟨some 16,none,.mov (.c (.int .i64 0))⟩]) (.block 6 (.loop (.seq (.seq (.reg [⟨some 79,none,.mov (.t 16)⟩,⟨some 80,none,.mov (.t 11)⟩,⟨some 81,none,.len (.t 80)⟩,⟨some 82,none,.bin .lss (.t 79) (.t 81)⟩]) (.cond (.t 82) .skip (.exit 6))) (.seq (.block 7 (.seq (.mix [⟨some 85,none,.fa 0 (.t 3)⟩,⟨some 86,none,.ld none (.t 85)⟩,⟨some 87,none,.mov (.t 15)⟩,⟨some 88,none,.mov (.t 11)⟩,⟨some 89,none,.mov (.t 16)⟩,⟨some 90,none,.isl 1 (.t 88) (.t 89)⟩,⟨some 91,none,.ld none (.t 90)⟩,⟨some 92,none,.fa 1 (.t 4)⟩,⟨some 93,none,.ia 8 64 (.t 92) (.t 87)⟩,⟨some 94,none,.ia 8 8 (.t 93) (.t 91)⟩,⟨some 95,none,.ld (some 8) (.t 94)⟩,⟨some 96,none,.mov (.t 9)⟩,⟨some 97,none,.call 22 [(.t 86),(.t 95),(.t 96)]⟩] [⟨some 17,none,.new 31 [(8,(.int .u8 0))]⟩,⟨none,none,.st 8 (.t 17) (.t 97)⟩]) (.seq (.reg [⟨some 18,none,.mov (.c (.int .i64 0))⟩]) (.block 8 (.loop (.seq (.seq (.reg [⟨some 98,none,.mov (.t 18)⟩,⟨some 99,none,.mov (.t 11)⟩,⟨some 100,none,.len (.t 99)⟩,⟨some 101,none,.bin .lss (.t 98) (.t 100)⟩]) (.cond (.t 101) .skip (.exit 8))) (.seq (.block 9 (.drw true [13] [⟨some 104,none,.mov (.t 15)⟩,⟨some 105,none,.mov (.t 16)⟩,⟨some 106,none,.mov (.t 18)⟩,⟨some 107,none,.mov (.t 11)⟩,⟨some 108,none,.mov (.t 18)⟩,⟨some 109,none,.isl 1 (.t 107) (.t 108)⟩,⟨some 110,none,.ld none (.t 109)⟩,⟨some 111,none,.ia 8 1 (.t 17) (.t 110)⟩,⟨some 112,none,.ld none (.t 111)⟩,⟨some 113,none,.fa 1 (.t 14)⟩,⟨some 114,none,.ia 8 64 (.t 113) (.t 104)⟩,⟨some 115,none,.ia 8 8 (.t 114) (.t 105)⟩,⟨some 116,none,.ia 8 1 (.t 115) (.t 106)⟩,⟨none,none,.st 1 (.t 116) (.t 112)⟩])) (.reg [⟨some 102,none,.mov (.t 18)⟩,⟨some 103,none,.bin .add (.t 102) (.c (.int .i64 1))⟩,⟨some 18,none,.mov (.t 103)⟩])))))))) (.reg [⟨some 83,none,.mov (.t 16)⟩,⟨some 84,none,.bin .add (.t 83) (.c (.int .i64 1))⟩,⟨some 16,none,.mov (.t 84)⟩]))))))) (.reg [⟨some 77,none,.mov (.t 15)⟩,⟨some 78,none,.bin .add (.t 77) (.c (.int .i64 1))⟩,⟨some 15,none,.mov (.t 78)⟩])))))) (.seq (.reg [⟨some 117,none,.ld (some 513) (.t 14)⟩,⟨none,none,.st 513 (.t 6) (.t 117)⟩,⟨some 7,none,.mov (.c (.int .i64 0))⟩]) .ret)))))))))

set_option maxRecDepth 100000 in
theorem tr6 : trFn Tryz.prog Tryz.f6 = some (118, ir6, [.cell (some 513) 6, .tmp 7]) := by kernel_rfl

theorem spec_QuotientModule (h : HT) (d : Int) (t : Nat → Int) (L : Nat → Nat → Int) (k lb : Nat) (lv : SV) (Kh Km : Nat → SV) (H : Hp) (n : Nat) (hK : h.At Kh) (hB : h.By) (kd : Km 0 = .int .i64 d) (cm : ∀ q, q < 512 → Km (1 + q) = .int .u8 (t q)) (ht : isBy 512 t)
    (hk : k ≤ 1000000) (hL : VL H lv k L lb) (hLb : ∀ i, i < k → isBy 8 (L i)) :
    FnS Tryz.prog 6 [.arr 1106 Kh, .arr 513 Km, .s lv] H n (fun r H' _ => r = .tup [.arr 513 (qmV h d t L k), i64 (k5 (qok h d t L k) (qgd h d t L k))] ∧ H' = H) := by
  have hk0 := hK.p
  have hk1 := hK.n
  refine FnS.of_body Tryz.func6 tr6 (by simp) (fun hf => ?_)
  dsimp only [argEnv]
  unfold ir6
  have hlb := hL.bound hf
  (repeat first|refine zG ?_|(refine LS.nilO ?_;intro nq hnq hltq;try refine zU ?_)|(refine MS.new ?_;intro bq hbq hbqf;try refine zU ?_)|(refine MS.nil ?_;intro nq hnq hltq;have hlq:=hltq _ _ (Hp.get_eq _ _ _);clear hltq;try refine zU ?_)|(refine LS.nilQ ?_;try with_reducible intro nq hnq;try refine zU ?_))
  refine RS.call rfl ((FnS.args (concs_cons (conc_arr (fun q hq => rfl)) (concs_cons (conc_arr (fun q hq => rfl)) rfl)) (spec_l06Vectors h d t L k lb lv Kh Km _ _ hK hB kd cm ht hk (hL.keep (by simp (disch := omega) only [Hp.get_ne])) hLb)).mono ?_)
  rintro r H' n2 hn2 ⟨rfl, rfl⟩
  by_cases hq : qok h d t L k
  · rw [cd_true hq]
    obtain ⟨⟨hh, hmod⟩, hvec⟩ := id hq
    obtain ⟨N, hS⟩ := hh.1.hs
    have hN := hS.N
    have hd := hmod.1.1
    obtain ⟨s, rfl⟩ := Int.eq_ofNat_of_zero_le (show 0 ≤ d by omega)
    have hisP : isP h.p = true := hh.1.1.1.1
    have hp := hS.hp
    have hLr : ∀ i, i < k → isRes h.p 8 (L i) := fun i hi => (hvec i hi).res (hLb i hi)
    have hk1' : Kh 1 = .int .i64 (N : Nat) := by rw [← hS.hn]; exact hk1
    have hk1'' : Kh (0 + 1) = .int .i64 (N : Nat) := hk1'
    have hN8 := hS.ha
    have cm' : ∀ q, q < 512 → Km (0 + 1 + q) = .int .u8 (t q) := cm
    (repeat first|refine zG ?_|(refine LS.nilO ?_;intro nq hnq hltq;try refine zU ?_)|(refine MS.new ?_;intro bq hbq hbqf;try refine zU ?_)|(refine MS.nil ?_;intro nq hnq hltq;have hlq:=hltq _ _ (Hp.get_eq _ _ _);clear hltq;try refine zU ?_)|(refine LS.nilQ ?_;try with_reducible intro nq hnq;try refine zU ?_))
    refine RS.call rfl ((spec_l01Reduce h.p L k lb lv _ _ hisP hk (hL.keep (by simp (disch := omega) only [Hp.get_ne])) hLr).mono ?_)
    rintro r H2 n3 hn3 ⟨sv, A', m, P', bs, rfl, V', rr', sm', hbs, hbsn, hfr2, hlow2⟩
    obtain ⟨A, P, hrd, rr, smm, e4⟩ := rdA_is hp.1 rr' sm'
    have V : VL H2 sv m A bs := V'.same e4
    clear V' rr' sm' e4
    have t0 : H2.get n = some ⟨1106, Kh, 41⟩ := by rw [hlow2 n (by omega)]; exact zH
    have t1 : H2.get (n + 1) = some ⟨513, Km, 36⟩ := by rw [hlow2 (n + 1) (by omega)]; exact zH
    have t2 : H2.get (n + 2) = some ⟨513, Zs.c [(1, SV.int .i64 0), (512, SV.int .u8 0)], 36⟩ := by rw [hlow2 (n + 2) (by omega)]; exact Hp.get_eq _ _ _
    have lo2 : ∀ x, x < n → H2.get x = H.get x := fun x hx => by rw [hlow2 x (by omega)]; simp (disch := omega) only [Hp.get_ne]
    have hm8 := rr.d8
    clear hlow2
    (repeat first|refine zG ?_|(refine LS.nilO ?_;intro nq hnq hltq;try refine zU ?_)|(refine MS.new ?_;intro bq hbq hbqf;try refine zU ?_)|(refine MS.nil ?_;intro nq hnq hltq;have hlq:=hltq _ _ (Hp.get_eq _ _ _);clear hltq;try refine zU ?_)|(refine LS.nilQ ?_;try with_reducible intro nq hnq;try refine zU ?_))
    obtain ⟨o, cap, K, rfl, gb, ho, hmc, hc⟩ := id V
    refine CS.iter m (fun i => [(12, i64 (i : Nat)), (9, .s (.slc bs o m cap)), (10, ptr (n3 + 1) 0), (11, .s (.slc n3 0 0 0)), (3, ptr n 0), (4, ptr (n + 1) 0), (6, ptr (n + 2) 0)])
      (fun i => (n3 + 1, ⟨8, ldb P i, 55⟩) :: (n3, ⟨0 * 1, fun i => Zs.c [(1, SV.int .i64 0)] (i % 1), 2⟩) :: H2) (fun _ => True) (by (repeat first | exact trivial | refine And.intro rfl ?_)) (Drops.keepc rfl rfl (fun q hq => ?_) (Drops.refl _ _)) trivial ?_
    · show SV.bool false = SV.bool (tb (∃ j, j < 0 ∧ P j = q))
      exact congrArg SV.bool (tb_false (by rintro ⟨j, hj, _⟩; omega)).symm
    intro i n4 hi hn4 _
    (repeat first|refine zG ?_|(refine LS.nilO ?_;intro nq hnq hltq;try refine zU ?_)|(refine MS.new ?_;intro bq hbq hbqf;try refine zU ?_)|(refine MS.nil ?_;intro nq hnq hltq;have hlq:=hltq _ _ (Hp.get_eq _ _ _);clear hltq;try refine zU ?_)|(refine LS.nilQ ?_;try with_reducible intro nq hnq;try refine zU ?_))
    refine zI ?_ ?_<;>intro h1
    · have hi' : i < m := by omega
      have e9 : ∀ q, q < 8 → K.c (o + i * 8 + q) = .int .u8 (A i q) := fun q hq => by rw [Nat.add_assoc]; exact hc i q hi' hq
      have hPi := rr.lt i hi'
      have hfs := rr.fsn hi'
      (repeat first|refine zG ?_|(refine LS.nilO ?_;intro nq hnq hltq;try refine zU ?_)|(refine MS.new ?_;intro bq hbq hbqf;try refine zU ?_)|(refine MS.nil ?_;intro nq hnq hltq;have hlq:=hltq _ _ (Hp.get_eq _ _ _);clear hltq;try refine zU ?_)|(refine LS.nilQ ?_;try with_reducible intro nq hnq;try refine zU ?_))
      refine RS.call rfl ((spec_l01First (A i) _ _).mono ?_)
      rintro r H' n5 hn5 ⟨rfl, rfl⟩
      rw [hfs]
      (repeat first|refine zG ?_|(refine LS.nilO ?_;intro nq hnq hltq;try refine zU ?_)|(refine MS.new ?_;intro bq hbq hbqf;try refine zU ?_)|(refine MS.nil ?_;intro nq hnq hltq;have hlq:=hltq _ _ (Hp.get_eq _ _ _);clear hltq;try refine zU ?_)|(refine LS.nilQ ?_;try with_reducible intro nq hnq;try refine zU ?_))
      exact ⟨by omega, by (repeat first | exact trivial | refine And.intro rfl ?_), Drops.keepc rfl rfl (fun q hq => ldb_step P i q) (Drops.refl _ _), trivial⟩
    obtain rfl : m = i := by omega
    (repeat first|refine zG ?_|(refine LS.nilO ?_;intro nq hnq hltq;try refine zU ?_)|(refine MS.new ?_;intro bq hbq hbqf;try refine zU ?_)|(refine MS.nil ?_;intro nq hnq hltq;have hlq:=hltq _ _ (Hp.get_eq _ _ _);clear hltq;try refine zU ?_)|(refine LS.nilQ ?_;try with_reducible intro nq hnq;try refine zU ?_))
    refine CS.weak (e1 := [(13, i64 (((0 : Nat) : Int))), (9, .s (.slc bs o m cap)), (10, ptr (n3 + 1) 0), (11, .s (.slc n3 0 0 0)), (3, ptr n 0), (4, ptr (n + 1) 0), (6, ptr (n + 2) 0)]) (by (repeat first | exact trivial | refine And.intro rfl ?_)) (Drops.refl _ _) ?_
    refine CS.loop (fun kx e H1 n1 => ∃ c v11 b11, c ≤ s ∧ kx = s - c ∧ e = [(13, i64 ((c : Nat))), (9, .s (.slc bs o m cap)), (10, ptr (n3 + 1) 0), (11, .s v11), (3, ptr n 0), (4, ptr (n + 1) 0), (6, ptr (n + 2) 0)] ∧ SL H1 v11 (fre P m c) (fun k => .int .i64 (frp P m c k : Nat)) b11 ∧ n3 ≤ b11 ∧ b11 ≠ n3 + 1 ∧ b11 < n1 ∧ H1.get (n3 + 1) = some ⟨8, ldb P m, 55⟩ ∧ (∀ x, x < n3 → H1.get x = H2.get x) ∧ ∀ x, n1 ≤ x → H1.get x = none) s ?_ ?_
    · exact ⟨0, _, n3, by omega, rfl, rfl, .inr ⟨0, 0, _, rfl, by rw [Hp.get_ne _ _ (by omega)]; exact Hp.get_eq _ _ _, by simp, by unfold fre; omega, fun i hi => by unfold fre at hi; omega⟩, by omega, by omega, by omega, Hp.get_eq _ _ _, fun x hx => by rw [Hp.get_ne _ _ (by omega), Hp.get_ne _ _ (by omega)], fun x hx => by rw [Hp.get_ne _ _ (by omega), Hp.get_ne _ _ (by omega)]; exact hfr2 x (by omega)⟩
    rintro kx e H3 n6 hn6 ⟨c, pv, pb, hc', rfl, rfl, hS3, hpb, hpb1, hpbn, hbl, hlow3, hfr3⟩
    have hfl := fre_le P m c
    have u0 : H3.get n = some ⟨1106, Kh, 41⟩ := by rw [hlow3 n (by omega)]; exact t0
    have u1 : H3.get (n + 1) = some ⟨513, Km, 36⟩ := by rw [hlow3 (n + 1) (by omega)]; exact t1
    have u2 : H3.get (n + 2) = some ⟨513, Zs.c [(1, SV.int .i64 0), (512, SV.int .u8 0)], 36⟩ := by rw [hlow3 (n + 2) (by omega)]; exact t2
    have hn31 := getlt hfr3 hbl
    (repeat first|refine zG ?_|(refine LS.nilO ?_;intro nq hnq hltq;try refine zU ?_)|(refine MS.new ?_;intro bq hbq hbqf;try refine zU ?_)|(refine MS.nil ?_;intro nq hnq hltq;have hlq:=hltq _ _ (Hp.get_eq _ _ _);clear hltq;try refine zU ?_)|(refine LS.nilQ ?_;try with_reducible intro nq hnq;try refine zU ?_))
    refine zI ?_ ?_<;>intro h2
    · have hc2 : c < s := by omega
      have hb1 : (ldb P m) c = .bool (tb (∃ j, j < m ∧ P j = c)) := rfl
      (repeat first|refine zG ?_|(refine LS.nilO ?_;intro nq hnq hltq;try refine zU ?_)|(refine MS.new ?_;intro bq hbq hbqf;try refine zU ?_)|(refine MS.nil ?_;intro nq hnq hltq;have hlq:=hltq _ _ (Hp.get_eq _ _ _);clear hltq;try refine zU ?_)|(refine LS.nilQ ?_;try with_reducible intro nq hnq;try refine zU ?_))
      refine zI ?_ ?_<;>intro h4
      · (repeat first|refine zG ?_|(refine LS.nilO ?_;intro nq hnq hltq;try refine zU ?_)|(refine MS.new ?_;intro bq hbq hbqf;try refine zU ?_)|(refine MS.nil ?_;intro nq hnq hltq;have hlq:=hltq _ _ (Hp.get_eq _ _ _);clear hltq;try refine zU ?_)|(refine LS.nilQ ?_;try with_reducible intro nq hnq;try refine zU ?_))
        refine RS.appS (w := .int .i64 (c : Nat)) (b2 := n6) (by exact rfl) (by exact rfl) (hS3.keep (by simp (disch := omega) only [Hp.get_ne])) (Hp.get_eq _ _ _) rfl rfl (by omega) (by omega) (by omega) ?_
        intro vB bB HB nB hSB0 hbB hltB hnB hnB' hgB
        have hSB : SL HB vB (fre P m (c + 1)) (fun k => .int .i64 (frp P m (c + 1) k : Nat)) bB := by
          rw [fre_no h4, frp_no h4]
          refine hSB0.same (fun k hk => ?_)
          unfold snS
          (try dsimp only)
          by_cases e : k = fre P m c
          · rw [if_pos e, if_pos e]
          · rw [if_neg e, if_neg e]
        (repeat first|refine zG ?_|(refine LS.nilO ?_;intro nq hnq hltq;try refine zU ?_)|(refine MS.new ?_;intro bq hbq hbqf;try refine zU ?_)|(refine MS.nil ?_;intro nq hnq hltq;have hlq:=hltq _ _ (Hp.get_eq _ _ _);clear hltq;try refine zU ?_)|(refine LS.nilQ ?_;try with_reducible intro nq hnq;try refine zU ?_))
        have hbB1 : n3 ≤ bB ∧ bB ≠ n3 + 1 := by
          rcases hbB with q | q <;> omega
        exact ⟨s - (c + 1), [(13, i64 (((c + 1 : Nat) : Int))), (9, .s (.slc bs o m cap)), (10, ptr (n3 + 1) 0), (11, .s vB), (3, ptr n 0), (4, ptr (n + 1) 0), (6, ptr (n + 2) 0)], HB, by omega, by (repeat first | exact trivial | refine And.intro rfl ?_), Drops.refl _ _, c + 1, vB, bB, by omega, rfl, rfl, hSB, hbB1.1, hbB1.2, by omega, by rw [hgB _ (by omega), Hp.get_ne _ _ (by omega)]; exact hbl, fun x hx => by rw [hgB x (by omega), Hp.get_ne _ _ (by omega)]; exact hlow3 x hx, fun x hx => by rw [hgB x (by omega), Hp.get_ne _ _ (by omega)]; exact hfr3 x (by omega)⟩
      · (repeat first|refine zG ?_|(refine LS.nilO ?_;intro nq hnq hltq;try refine zU ?_)|(refine MS.new ?_;intro bq hbq hbqf;try refine zU ?_)|(refine MS.nil ?_;intro nq hnq hltq;have hlq:=hltq _ _ (Hp.get_eq _ _ _);clear hltq;try refine zU ?_)|(refine LS.nilQ ?_;try with_reducible intro nq hnq;try refine zU ?_))
        exact ⟨s - (c + 1), [(13, i64 (((c + 1 : Nat) : Int))), (9, .s (.slc bs o m cap)), (10, ptr (n3 + 1) 0), (11, .s pv), (3, ptr n 0), (4, ptr (n + 1) 0), (6, ptr (n + 2) 0)], H3, by omega, by (repeat first | exact trivial | refine And.intro rfl ?_), Drops.refl _ _, c + 1, pv, pb, by omega, rfl, rfl, by rw [fre_yes h4, frp_yes h4]; exact hS3, hpb, hpb1, by omega, hbl, hlow3, fun x hx => hfr3 x (by omega)⟩
    obtain rfl : s = c := by omega
    have V3 : VL H3 (.slc bs o m cap) m A bs := V.keep (hlow3 bs hbsn)
    have lo3 : ∀ x, x < n → H3.get x = H.get x := fun x hx => by rw [hlow3 x (by omega), lo2 x hx]
    clear t0 t1 t2 lo2 hlow3 hbl hn4
    (repeat first|refine zG ?_|(refine LS.nilO ?_;intro nq hnq hltq;try refine zU ?_)|(refine MS.new ?_;intro bq hbq hbqf;try refine zU ?_)|(refine MS.nil ?_;intro nq hnq hltq;have hlq:=hltq _ _ (Hp.get_eq _ _ _);clear hltq;try refine zU ?_)|(refine LS.nilQ ?_;try with_reducible intro nq hnq;try refine zU ?_))
    refine RS.lenSL (by exact rfl) hS3 ?_
    (repeat first|refine zG ?_|(refine LS.nilO ?_;intro nq hnq hltq;try refine zU ?_)|(refine MS.new ?_;intro bq hbq hbqf;try refine zU ?_)|(refine MS.nil ?_;intro nq hnq hltq;have hlq:=hltq _ _ (Hp.get_eq _ _ _);clear hltq;try refine zU ?_)|(refine LS.nilQ ?_;try with_reducible intro nq hnq;try refine zU ?_))
    refine RS.sp (t := 62) rfl (fun h6 => ?_) (fun h6 => ?_) <;> (try simp only [tb_eq, tb_eqF, decide_eq_true_eq, decide_eq_false_iff_not, beq_iff_eq, bne_iff_ne, ne_eq, Decidable.not_not, beq_eq_false_iff_ne, bne_eq_false_iff_eq, Bool.not_eq_true', Bool.not_eq_false', Bool.not_eq_eq_eq_not, Bool.not_true, Bool.not_false] at h6)
    · have hgd : ¬qgd h (s : Nat) t L k := fun z => z.1 (by rw [hrd]; show fre P m s = 0; omega)
      (repeat first|refine zG ?_|(refine LS.nilO ?_;intro nq hnq hltq;try refine zU ?_)|(refine MS.new ?_;intro bq hbq hbqf;try refine zU ?_)|(refine MS.nil ?_;intro nq hnq hltq;have hlq:=hltq _ _ (Hp.get_eq _ _ _);clear hltq;try refine zU ?_)|(refine LS.nilQ ?_;try with_reducible intro nq hnq;try refine zU ?_))
      exact ⟨.tup [.arr 513 (qmV h (s : Nat) t L k), i64 (k5 (qok h (s : Nat) t L k) (qgd h (s : Nat) t L k))], H, conc_tup2 (conc_arr (fun q hq' => by unfold qmV; rw [tb_false (fun z => hgd z.2)]; simp only [Nat.zero_add]; exact modZ q hq')) (by rw [k5_5 hq hgd]), Drops.low hf (fun x hx => by rw [Hp.get_set_other _ (by omega)]; exact lo3 x hx), rfl, rfl⟩
    · have hf0 : fre P m s ≠ 0 := by omega
      (repeat first|refine zG ?_|(refine LS.nilO ?_;intro nq hnq hltq;try refine zU ?_)|(refine MS.new ?_;intro bq hbq hbqf;try refine zU ?_)|(refine MS.nil ?_;intro nq hnq hltq;have hlq:=hltq _ _ (Hp.get_eq _ _ _);clear hltq;try refine zU ?_)|(refine LS.nilQ ?_;try with_reducible intro nq hnq;try refine zU ?_))
      refine RS.call rfl ((spec_l06Closed h N s t A m bs (.slc bs o m cap) Kh Km _ _ hS hK kd cm ht (by rw [← hN]; exact hmod.1) hm8 V3 (fun i hi => rr.res i hi) (fun i hi => by rw [rr.fsn hi]; exact rr.lt i hi)).mono ?_)
      rintro r H3 n7 hn7 ⟨rfl, rfl⟩
      rw [← hN]
      (repeat first|refine zG ?_|(refine LS.nilO ?_;intro nq hnq hltq;try refine zU ?_)|(refine MS.new ?_;intro bq hbq hbqf;try refine zU ?_)|(refine MS.nil ?_;intro nq hnq hltq;have hlq:=hltq _ _ (Hp.get_eq _ _ _);clear hltq;try refine zU ?_)|(refine LS.nilQ ?_;try with_reducible intro nq hnq;try refine zU ?_))
      refine zI ?_ ?_<;>intro h7
      · have hgd : ¬qgd h (s : Nat) t L k := fun z => h7 (by have := z.2; rw [hrd] at this; exact this)
        (repeat first|refine zG ?_|(refine LS.nilO ?_;intro nq hnq hltq;try refine zU ?_)|(refine MS.new ?_;intro bq hbq hbqf;try refine zU ?_)|(refine MS.nil ?_;intro nq hnq hltq;have hlq:=hltq _ _ (Hp.get_eq _ _ _);clear hltq;try refine zU ?_)|(refine LS.nilQ ?_;try with_reducible intro nq hnq;try refine zU ?_))
        exact ⟨.tup [.arr 513 (qmV h (s : Nat) t L k), i64 (k5 (qok h (s : Nat) t L k) (qgd h (s : Nat) t L k))], H, conc_tup2 (conc_arr (fun q hq' => by unfold qmV; rw [tb_false (fun z => hgd z.2)]; simp only [Nat.zero_add]; exact modZ q hq')) (by rw [k5_5 hq hgd]), Drops.low hf (fun x hx => by rw [Hp.get_set_other _ (by omega)]; exact lo3 x hx), rfl, rfl⟩
      · have hgd : qgd h (s : Nat) t L k := by unfold qgd; rw [hrd]; exact ⟨hf0, h7⟩
        (repeat first|refine zG ?_|(refine LS.nilO ?_;intro nq hnq hltq;try refine zU ?_)|(refine MS.new ?_;intro bq hbq hbqf;try refine zU ?_)|(refine MS.nil ?_;intro nq hnq hltq;have hlq:=hltq _ _ (Hp.get_eq _ _ _);clear hltq;try refine zU ?_)|(refine LS.nilQ ?_;try with_reducible intro nq hnq;try refine zU ?_))
        refine RS.lenSL (by exact rfl) hS3 ?_
        (repeat first|refine zG ?_|(refine LS.nilO ?_;intro nq hnq hltq;try refine zU ?_)|(refine MS.new ?_;intro bq hbq hbqf;try refine zU ?_)|(refine MS.nil ?_;intro nq hnq hltq;have hlq:=hltq _ _ (Hp.get_eq _ _ _);clear hltq;try refine zU ?_)|(refine LS.nilQ ?_;try with_reducible intro nq hnq;try refine zU ?_))
        obtain ⟨Y, hY⟩ : ∃ Y, Y = qmt h.p A m P t s N := ⟨_, rfl⟩
        have hc8 : fre P m s ≤ 8 := by omega
        obtain ⟨po, pcap, kp, hpv, gp, sp, pm, cq⟩ : ∃ o cap k, pv = .slc pb o (fre P m s) cap ∧ H3.get pb = some k ∧ o + cap ≤ k.size ∧ fre P m s ≤ cap ∧ ∀ i, i < fre P m s → k.c (o + i) = .int .i64 (frp P m s i : Nat) := by
          rcases hS3 with ⟨_, q0⟩ | q
          · omega
          · exact q
        subst hpv
        refine CS.iter N (fun i => [(15, i64 (i : Nat)), (9, .s (.slc bs o m cap)), (11, .s (.slc pb po (fre P m s) pcap)), (14, ptr n7 0), (3, ptr n 0), (4, ptr (n + 1) 0), (6, ptr (n + 2) 0)])
          (fun i => (n7, ⟨513, modC (fre P m s : Nat) (cto Y (64 * i)), 36⟩) :: H3) (fun _ => True) (by (repeat first | exact trivial | refine And.intro rfl ?_)) (Drops.keepc rfl rfl (fun q hq => by
            (try dsimp only)
            rw [show 64 * 0 = 0 from rfl, cto_zero]
            show put1 (Zs.c [(1, SV.int .i64 0), (512, SV.int .u8 0)]) 0 (.int .i64 (fre P m s : Nat)) q = _
            unfold put1 modC
            by_cases e : q = 0
            · rw [if_pos e, if_pos e]
            · rw [if_neg e, if_neg e]
              show (if q < 1 then SV.int .i64 0 else SV.int .u8 0) = _
              rw [if_neg (by omega)]) (Drops.refl _ _)) trivial ?_
        intro i n8 hi hn8 _
        (repeat first|refine zG ?_|(refine LS.nilO ?_;intro nq hnq hltq;try refine zU ?_)|(refine MS.new ?_;intro bq hbq hbqf;try refine zU ?_)|(refine MS.nil ?_;intro nq hnq hltq;have hlq:=hltq _ _ (Hp.get_eq _ _ _);clear hltq;try refine zU ?_)|(refine LS.nilQ ?_;try with_reducible intro nq hnq;try refine zU ?_))
        refine zI ?_ ?_<;>intro h8
        · have hi' : i < N := by omega
          (repeat first|refine zG ?_|(refine LS.nilO ?_;intro nq hnq hltq;try refine zU ?_)|(refine MS.new ?_;intro bq hbq hbqf;try refine zU ?_)|(refine MS.nil ?_;intro nq hnq hltq;have hlq:=hltq _ _ (Hp.get_eq _ _ _);clear hltq;try refine zU ?_)|(refine LS.nilQ ?_;try with_reducible intro nq hnq;try refine zU ?_))
          refine CS.iter (fre P m s) (fun k => [(16, i64 (k : Nat)), (15, i64 (i : Nat)), (9, .s (.slc bs o m cap)), (11, .s (.slc pb po (fre P m s) pcap)), (14, ptr n7 0), (3, ptr n 0), (4, ptr (n + 1) 0), (6, ptr (n + 2) 0)])
            (fun k => (n7, ⟨513, modC (fre P m s : Nat) (cto Y (64 * i + 8 * k)), 36⟩) :: H3) (fun _ => True) (by (repeat first | exact trivial | refine And.intro rfl ?_)) (Drops.refl _ _) trivial ?_
          intro kk n9 hkk hn9 _
          (repeat first|refine zG ?_|(refine LS.nilO ?_;intro nq hnq hltq;try refine zU ?_)|(refine MS.new ?_;intro bq hbq hbqf;try refine zU ?_)|(refine MS.nil ?_;intro nq hnq hltq;have hlq:=hltq _ _ (Hp.get_eq _ _ _);clear hltq;try refine zU ?_)|(refine LS.nilQ ?_;try with_reducible intro nq hnq;try refine zU ?_))
          refine zI ?_ ?_<;>intro h9
          · have hkk' : kk < fre P m s := by omega
            have hpl := frp_lt P m s kk hkk'
            have pc1 : kp.c (po + kk * 1) = .int .i64 (frp P m s kk : Nat) := by rw [Nat.mul_one]; exact cq kk hkk'
            have hpb7 : pb ≠ n7 := by omega
            have hres : isRes h.p 8 (fun y => t (64 * i + 8 * frp P m s kk + y)) := fun x hx => (hmod.1.res ht) _ (by omega)
            obtain ⟨own, hown⟩ : ∃ own, own = rdk h.p A (fun y => t (64 * i + 8 * frp P m s kk + y)) m := ⟨_, rfl⟩
            have hob : isBy 8 own := by rw [hown]; exact isRes.by (rdk_res hp.1 hres m) hp.2
            have hrow : ∀ y, y < 8 → Y (64 * i + 8 * kk + y) = pck own (frp P m s) (fre P m s) y := fun y hy => by rw [hY, hown]; exact qmt_row hi' hkk' (by omega) hy
            (repeat first|refine zG ?_|(refine LS.nilO ?_;intro nq hnq hltq;try refine zU ?_)|(refine MS.new ?_;intro bq hbq hbqf;try refine zU ?_)|(refine MS.nil ?_;intro nq hnq hltq;have hlq:=hltq _ _ (Hp.get_eq _ _ _);clear hltq;try refine zU ?_)|(refine LS.nilQ ?_;try with_reducible intro nq hnq;try refine zU ?_))
            refine LS.callQ (.arr 8 (bys own)) rfl (fun n' hn' => by
              rw [hown]
              exact spec_l01By h.p A m bs (.slc bs o m cap) (fun y => t (64 * i + 8 * frp P m s kk + y)) _ _ hp (by omega) (V3.keep (Hp.get_ne _ _ (by omega))) (fun i hi => rr.res i hi) (fun i hi => by rw [rr.fsn hi]; exact rr.lt i hi) hres) ?_
            (repeat first|refine zG ?_|(refine LS.nilO ?_;intro nq hnq hltq;try refine zU ?_)|(refine MS.new ?_;intro bq hbq hbqf;try refine zU ?_)|(refine MS.nil ?_;intro nq hnq hltq;have hlq:=hltq _ _ (Hp.get_eq _ _ _);clear hltq;try refine zU ?_)|(refine LS.nilQ ?_;try with_reducible intro nq hnq;try refine zU ?_))
            have hq7 : bq ≠ n7 := by
              rintro rfl
              rw [Hp.get_eq] at hbqf; cases hbqf
            have hq3 : H3.get bq = none := by rw [Hp.get_ne _ _ (fun q => hq7 q.symm)] at hbqf; exact hbqf
            have hqb : bq ≠ pb := fun q => by rw [q, gp] at hq3; cases hq3
            refine CS.iter (fre P m s) (fun j => [(18, i64 (j : Nat)), (17, ptr bq 0), (16, i64 (kk : Nat)), (15, i64 (i : Nat)), (9, .s (.slc bs o m cap)), (11, .s (.slc pb po (fre P m s) pcap)), (14, ptr n7 0), (3, ptr n 0), (4, ptr (n + 1) 0), (6, ptr (n + 2) 0)])
              (fun j => (bq, ⟨8, bys own, 31⟩) :: (n7, ⟨513, modC (fre P m s : Nat) (cto Y (64 * i + 8 * kk + j)), 36⟩) :: H3) (fun _ => True) (by (repeat first | exact trivial | refine And.intro rfl ?_)) (Drops.keepc rfl rfl (fun _ _ => rfl) (Drops.refl _ _)) trivial ?_
            intro j n11 hj hn11 _
            (repeat first|refine zG ?_|(refine LS.nilO ?_;intro nq hnq hltq;try refine zU ?_)|(refine MS.new ?_;intro bq hbq hbqf;try refine zU ?_)|(refine MS.nil ?_;intro nq hnq hltq;have hlq:=hltq _ _ (Hp.get_eq _ _ _);clear hltq;try refine zU ?_)|(refine LS.nilQ ?_;try with_reducible intro nq hnq;try refine zU ?_))
            refine zI ?_ ?_<;>intro h10
            · have hj' : j < fre P m s := by omega
              have hplj := frp_lt P m s j hj'
              have pcj : kp.c (po + j * 1) = .int .i64 (frp P m s j : Nat) := by rw [Nat.mul_one]; exact cq j hj'
              have hoj := hob (frp P m s j) (by omega)
              have hr1 : (bys own) (frp P m s j) = .int .u8 (own (frp P m s j)) := rfl
              have hYj : Y (64 * i + 8 * kk + j) = own (frp P m s j) := by rw [hrow j (by omega)]; unfold pck; rw [if_pos hj']
              (repeat first|refine zG ?_|(refine LS.nilO ?_;intro nq hnq hltq;try refine zU ?_)|(refine MS.new ?_;intro bq hbq hbqf;try refine zU ?_)|(refine MS.nil ?_;intro nq hnq hltq;have hlq:=hltq _ _ (Hp.get_eq _ _ _);clear hltq;try refine zU ?_)|(refine LS.nilQ ?_;try with_reducible intro nq hnq;try refine zU ?_))
              refine ⟨by omega, by (repeat first | exact trivial | refine And.intro rfl ?_), Drops.keepc rfl rfl (fun _ _ => rfl) (Drops.keepc rfl rfl (fun q hq => ?_) (Drops.refl _ _)), trivial⟩
              rw [← hYj]
              exact cto_cell Y (fre P m s : Nat) (64 * i + 8 * kk + j) q
            · obtain rfl : fre P m s = j := by omega
              (repeat first|refine zG ?_|(refine LS.nilO ?_;intro nq hnq hltq;try refine zU ?_)|(refine MS.new ?_;intro bq hbq hbqf;try refine zU ?_)|(refine MS.nil ?_;intro nq hnq hltq;have hlq:=hltq _ _ (Hp.get_eq _ _ _);clear hltq;try refine zU ?_)|(refine LS.nilQ ?_;try with_reducible intro nq hnq;try refine zU ?_))
              exact ⟨by omega, by (repeat first | exact trivial | refine And.intro rfl ?_), Drops.drop (by omega) (by rw [Hp.get_ne _ _ (fun q => hq7 q.symm)]; exact hq3) (Drops.keepc rfl rfl (fun q hq => by
                rw [cto_more (n := 64 * i + 8 * kk + fre P m s) (n' := 64 * i + 8 * (kk + 1)) (by omega) (fun q h1 h2 => by
                  have e := hrow (q - (64 * i + 8 * kk)) (by omega)
                  rw [show 64 * i + 8 * kk + (q - (64 * i + 8 * kk)) = q by omega] at e
                  rw [e]; unfold pck; rw [if_neg (by omega)])]) (Drops.refl _ _)), trivial⟩
          · obtain rfl : fre P m s = kk := by omega
            (repeat first|refine zG ?_|(refine LS.nilO ?_;intro nq hnq hltq;try refine zU ?_)|(refine MS.new ?_;intro bq hbq hbqf;try refine zU ?_)|(refine MS.nil ?_;intro nq hnq hltq;have hlq:=hltq _ _ (Hp.get_eq _ _ _);clear hltq;try refine zU ?_)|(refine LS.nilQ ?_;try with_reducible intro nq hnq;try refine zU ?_))
            exact ⟨by omega, by (repeat first | exact trivial | refine And.intro rfl ?_), Drops.keepc rfl rfl (fun q hq => by rw [cto_more (n := 64 * i + 8 * fre P m s) (n' := 64 * (i + 1)) (by omega) (fun q h1 h2 => by rw [hY]; exact qmt_out (.inr (by omega)))]) (Drops.refl _ _), trivial⟩
        · obtain rfl : N = i := by omega
          (repeat first|refine zG ?_|(refine LS.nilO ?_;intro nq hnq hltq;try refine zU ?_)|(refine MS.new ?_;intro bq hbq hbqf;try refine zU ?_)|(refine MS.nil ?_;intro nq hnq hltq;have hlq:=hltq _ _ (Hp.get_eq _ _ _);clear hltq;try refine zU ?_)|(refine LS.nilQ ?_;try with_reducible intro nq hnq;try refine zU ?_))
          refine ⟨.tup [.arr 513 (qmV h (s : Nat) t L k), i64 (k5 (qok h (s : Nat) t L k) (qgd h (s : Nat) t L k))], H, conc_tup2 (conc_arr (fun q hq' => ?_)) (by rw [k5_0 hq hgd]), Drops.drop (by omega) (hf _ (by omega)) (Drops.low hf (fun x hx => by rw [Hp.get_set_other _ (by omega)]; exact lo3 x hx)), rfl, rfl⟩
          simp only [Nat.zero_add]
          unfold qmV
          rw [tb_true ⟨hq, hgd⟩, hrd]
          show modC (fre P m s : Nat) (cto Y (64 * N)) q = modC (fre P m s : Nat) (qmt h.p A m P t s h.N) q
          rw [hN, ← hY]
          unfold modC
          by_cases e : q = 0
          · rw [if_pos e, if_pos e]
          · rw [if_neg e, if_neg e]
            refine congrArg (SV.int .u8) ?_
            unfold cto
            by_cases e2 : q - 1 < 64 * N
            · rw [if_pos e2]
            · rw [if_neg e2, hY, qmt_out (.inl (by omega))]
  · rw [cd_false hq]
    (repeat first|refine zG ?_|(refine LS.nilO ?_;intro nq hnq hltq;try refine zU ?_)|(refine MS.new ?_;intro bq hbq hbqf;try refine zU ?_)|(refine MS.nil ?_;intro nq hnq hltq;have hlq:=hltq _ _ (Hp.get_eq _ _ _);clear hltq;try refine zU ?_)|(refine LS.nilQ ?_;try with_reducible intro nq hnq;try refine zU ?_))
    exact ⟨.tup [.arr 513 (qmV h d t L k), i64 (k5 (qok h d t L k) (qgd h d t L k))], H, conc_tup2 (conc_arr (fun q hq' => by unfold qmV; rw [tb_false (fun z => hq z.1)]; first | exact modZ q hq' | (simp only [Nat.zero_add]; exact modZ q hq'))) (by rw [k5_1 hq]), by exact zD, rfl, rfl⟩

end Go.Proofs.YtkmfdhicjaccaaaGreat
