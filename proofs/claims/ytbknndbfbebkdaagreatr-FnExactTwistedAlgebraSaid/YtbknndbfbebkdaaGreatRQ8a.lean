/- Contracts of the program's functions. -/
import Derived.Test.YtbknndbfbebkdaaGreatRR
import Derived.Test.YtbknndbfbebkdaaGreatRLW
import Derived.Test.YtbknndbfbebkdaaGreatRQ7a
import Derived.Test.YtbknndbfbebkdaaGreatRQ7b
namespace Go.Proofs.YtbknndbfbebkdaaGreatR
open Go.V
set_option linter.unusedSimpArgs false
set_option linter.unusedVariables false
set_option maxHeartbeats 4000000
/-- impl.TwistedAlgebra -/
def ir13 : Cd := (.seq (.reg [⟨some 2,none,.box 35 (.t 0)⟩,⟨some 3,none,.box 31 (.t 1)⟩,⟨some 4,none,.new 40 [(2,(.int .i64 0)),(520,(.int .u8 0))]⟩,⟨some 5,none,.mov (.c (.int .i64 0))⟩]) (.seq (.reg [⟨some 10,none,.bsl 52 1 1 [(1,.nil)] [(0,1,(.t 3))]⟩,⟨some 11,none,.call 25 [(.t 2),(.t 10)]⟩,⟨some 6,none,.mov (.t 11)⟩]) (.seq (.seq (.reg [⟨some 12,none,.mov (.t 6)⟩,⟨some 13,none,.mov (.t 6)⟩,⟨some 14,none,.bin .neq (.t 13) (.c (.int .i64 0))⟩,⟨some 15,none,.mov (.t 14)⟩,⟨some 16,(some (15,false)),.call 31 [(.t 2),(.t 3)]⟩,⟨some 17,none,.pick (.t 15) (.c (.bool true)) (.t 16)⟩,⟨some 18,none,.call 30 [(.t 17),(.c (.int .i64 5))]⟩,⟨some 19,none,.bsl 2 2 1 [(1,(.int .i64 0))] [(0,1,(.t 12)),(1,1,(.t 18))]⟩,⟨some 20,none,.call 29 [(.t 19)]⟩,⟨some 6,none,.mov (.t 20)⟩]) (.seq (.reg [⟨some 21,none,.mov (.t 6)⟩,⟨some 22,none,.bin .neq (.t 21) (.c (.int .i64 0))⟩]) (.cond (.t 22) (.seq (.reg [⟨some 23,none,.build 522 [(2,(.int .i64 0)),(520,(.int .u8 0))] []⟩,⟨some 24,none,.mov (.t 6)⟩,⟨none,none,.st 522 (.t 4) (.t 23)⟩,⟨some 5,none,.mov (.t 24)⟩]) .ret) .skip))) (.seq (.reg [⟨some 25,none,.fa 0 (.t 2)⟩,⟨some 26,none,.ld none (.t 25)⟩,⟨some 27,none,.fa 1 (.t 2)⟩,⟨some 28,none,.ld none (.t 27)⟩,⟨some 29,none,.fa 2 (.t 2)⟩,⟨some 30,none,.ld (some 8) (.t 29)⟩,⟨some 31,none,.build 522 [(2,(.int .i64 0)),(520,(.int .u8 0))] [(0,1,(.t 26)),(1,1,(.t 28)),(2,8,(.t 30))]⟩,⟨some 7,none,.new 40 [(2,(.int .i64 0)),(520,(.int .u8 0))]⟩,⟨none,none,.st 522 (.t 7) (.t 31)⟩]) (.seq (.seq (.reg [⟨some 32,none,.fa 1 (.t 2)⟩,⟨some 33,none,.ld none (.t 32)⟩,⟨some 34,none,.mov (.c (.int .i64 0))⟩]) (.block 0 (.loop (.seq (.reg [⟨some 35,none,.bin .lss (.t 34) (.t 33)⟩]) (.seq (.cond (.t 35) .skip (.exit 0)) (.seq (.block 1 (.seq (.reg [⟨some 36,none,.mov (.t 34)⟩,⟨some 8,none,.mov (.t 36)⟩]) (.seq (.reg [⟨some 37,none,.fa 1 (.t 2)⟩,⟨some 38,none,.ld none (.t 37)⟩,⟨some 39,none,.mov (.c (.int .i64 0))⟩]) (.block 2 (.loop (.seq (.reg [⟨some 40,none,.bin .lss (.t 39) (.t 38)⟩]) (.seq (.cond (.t 40) .skip (.exit 2)) (.seq (.block 3 (.seq (.reg [⟨some 41,none,.mov (.t 39)⟩,⟨some 9,none,.mov (.t 41)⟩]) (.drw true [8] [⟨some 42,none,.mov (.t 8)⟩,⟨some 43,none,.mov (.t 9)⟩,⟨some 44,none,.mov (.t 8)⟩,⟨some 45,none,.mov (.t 9)⟩,⟨some 46,none,.call 32 [(.t 2),(.t 3),(.t 44),(.t 45)]⟩,⟨some 47,none,.fa 10 (.t 7)⟩,⟨some 48,none,.ia 8 64 (.t 47) (.t 42)⟩,⟨some 49,none,.ia 8 8 (.t 48) (.t 43)⟩,⟨none,none,.st 8 (.t 49) (.t 46)⟩]))) (.reg [⟨some 50,none,.bin .add (.t 39) (.c (.int .i64 1))⟩,⟨some 39,none,.mov (.t 50)⟩]))))))))) (.reg [⟨some 51,none,.bin .add (.t 34) (.c (.int .i64 1))⟩,⟨some 34,none,.mov (.t 51)⟩]))))))) (.seq (.reg [⟨some 52,none,.ld (some 522) (.t 7)⟩,⟨none,none,.st 522 (.t 4) (.t 52)⟩,⟨some 5,none,.mov (.c (.int .i64 0))⟩]) .ret))))))
set_option maxRecDepth 100000 in
theorem tr13 : trFn Tryz.prog Tryz.f13 = some (53, ir13, [.cell (some 522) 4, .tmp 5]) := by kernel_rfl
theorem impl_TwistedAlgebra (h : HT) (s : Nat → Int) (K : Nat → SV) (H : Hp) (n : Nat) (hK : h.At K) (hB : h.By) (hs : isBy 64 s) :
    FnS Tryz.prog 13 [.arr 1106 K, .arr 64 (bys s)] H n (fun r H' _ => r = .tup [.arr 522 (algV (mok h 1 (fun _ => s) ∧ (normed h h.N s ∧ cocyc h.p h.m h.c s h.N)) h.p h.n h.u (rowsTo (fun _ => 0) (legs h.p h.m h.c s) (8 * h.N))), i64 (sc5 (mok h 1 (fun _ => s)) (normed h h.N s ∧ cocyc h.p h.m h.c s h.N))] ∧ H' = H) := by
  have hk0 := hK.p
  have hk1 := hK.n
  have hk2 := hK.u
  refine FnS.of_body Tryz.func13 tr13 (by simp) (fun hf => ?_)
  dsimp only [argEnv]
  unfold ir13
  (repeat first|refine zG ?_|(refine LS.nilO ?_;intro nq hnq hltq;try refine zU ?_)|(refine MS.new ?_;intro bq hbq hbqf;try refine zU ?_)|(refine MS.nil ?_;intro nq hnq hltq;have hlq:=hltq _ _ (Hp.get_eq _ _ _);clear hltq;try refine zU ?_)|(refine LS.nilQ ?_;try with_reducible intro nq hnq;try refine zU ?_))
  refine RS.call rfl ((impl_matricesCode h n (.slc (n + 3) 0 1 1) 1 (by omega) (fun _ => s) ⟨1106, K, 35⟩ _ _ (by exact zH) rfl hK hB ⟨n + 3, 1, _, rfl, by exact zH, (by simp), fun i hi => ⟨n + 1, ⟨64, bys s, 31⟩, by (obtain rfl : i = 0 := by omega); rfl, by exact zH, (by simp), fun q hq => by rw [Nat.zero_add]; rfl⟩⟩ (fun _ _ => hs)).mono ?_)
  rintro r H' n2 hn2 ⟨rfl, rfl⟩
  by_cases h3 : mok h 1 (fun _ => s)
  · rw [cd_true h3]
    obtain ⟨a, hS⟩ := isHopf.hs h3.1
    have hN := hS.N
    subst hN
    have hp := hS.hp
    have ha := hS.ha
    have hz0 := h3.lz hS (show 0 < 1 by omega)
    rw [hS.hn] at hk1
    (repeat first|refine zG ?_|(refine LS.nilO ?_;intro nq hnq hltq;try refine zU ?_)|(refine MS.new ?_;intro bq hbq hbqf;try refine zU ?_)|(refine MS.nil ?_;intro nq hnq hltq;have hlq:=hltq _ _ (Hp.get_eq _ _ _);clear hltq;try refine zU ?_)|(refine LS.nilQ ?_;try with_reducible intro nq hnq;try refine zU ?_))
    refine RS.call rfl ((Hopf_isCocycle h h.N s n (n + 1) 0 ⟨1106, K, 35⟩ ⟨64, bys s, 31⟩ _ _ hS (by exact zH) rfl hK hB hs (by exact zH) (by simp) (fun q hq => by rw [Nat.zero_add]; rfl)).mono ?_)
    rintro r H' n3 hn3 ⟨rfl, rfl⟩
    by_cases h4 : (normed h h.N s ∧ cocyc h.p h.m h.c s h.N)
    · rw [tb_true h4]
      (repeat first|refine zG ?_|(refine LS.nilO ?_;intro nq hnq hltq;try refine zU ?_)|(refine MS.new ?_;intro bq hbq hbqf;try refine zU ?_)|(refine MS.nil ?_;intro nq hnq hltq;have hlq:=hltq _ _ (Hp.get_eq _ _ _);clear hltq;try refine zU ?_)|(refine LS.nilQ ?_;try with_reducible intro nq hnq;try refine zU ?_))
      refine RS.call rfl ((impl_unlessB true 5 _ _).mono ?_)
      rintro r H' n4 hn4 ⟨rfl, rfl⟩
      simp only [↓reduceIte]
      (repeat first|refine zG ?_|(refine LS.nilO ?_;intro nq hnq hltq;try refine zU ?_)|(refine MS.new ?_;intro bq hbq hbqf;try refine zU ?_)|(refine MS.nil ?_;intro nq hnq hltq;have hlq:=hltq _ _ (Hp.get_eq _ _ _);clear hltq;try refine zU ?_)|(refine LS.nilQ ?_;try with_reducible intro nq hnq;try refine zU ?_))
      refine RS.call rfl ((impl_first2 n4 2 0 0 _ _ _ (by exact zH) rfl rfl rfl).mono ?_)
      rintro r H' n5 hn5 ⟨rfl, rfl⟩
      simp only [ne_eq, not_true_eq_false, ↓reduceIte]
      (repeat first|refine zG ?_|(refine LS.nilO ?_;intro nq hnq hltq;try refine zU ?_)|(refine MS.new ?_;intro bq hbq hbqf;try refine zU ?_)|(refine MS.nil ?_;intro nq hnq hltq;have hlq:=hltq _ _ (Hp.get_eq _ _ _);clear hltq;try refine zU ?_)|(refine LS.nilQ ?_;try with_reducible intro nq hnq;try refine zU ?_))
      refine CS.iter h.N (fun i => [(34, i64 i), (33, i64 h.N), (2, ptr n 0), (3, ptr (n + 1) 0), (4, ptr (n + 2) 0), (7, ptr n5 0)]) (fun i => (n5, ⟨522, algC h.p h.N h.u (rowsTo (fun _ => 0) (legs h.p h.m h.c s) (8 * i)), 40⟩) :: (n + 2, ⟨522, Zs.c [(2, .int .i64 0), (520, .int .u8 0)], 40⟩) :: (n + 1, ⟨64, bys s, 31⟩) :: (n, ⟨1106, K, 35⟩) :: H) (fun _ => True) (by (repeat first | exact trivial | refine And.intro rfl ?_))
        (Drops.keepc rfl rfl (fun q hq => by
          show splice (put1 (put1 (Zs.c [(2, .int .i64 0), (520, .int .u8 0)]) 0 (.int .i64 h.p)) 1 (.int .i64 h.N)) 2 8 (bys h.u) q = _
          have hz : Zs.c [(2, SV.int IntKind.i64 0), (520, SV.int IntKind.u8 0)] q = if q < 2 then .int .i64 0 else .int .u8 0 := rfl
          rw [show rowsTo (fun _ => 0) (legs h.p h.m h.c s) (8 * 0) = fun _ => 0 from rowsTo_zero _ _]
          unfold splice put1 bys
          rw [hz]
          show _ = algC h.p h.N h.u (fun _ => 0) q
          unfold algC
          (repeat' split) <;> first | rfl | omega) (by first | exact Drops.refl _ _ | exact zD)) trivial ?_
      intro i m1 hi hm1 _
      (repeat first|refine zG ?_|(refine LS.nilO ?_;intro nq hnq hltq;try refine zU ?_)|(refine MS.new ?_;intro bq hbq hbqf;try refine zU ?_)|(refine MS.nil ?_;intro nq hnq hltq;have hlq:=hltq _ _ (Hp.get_eq _ _ _);clear hltq;try refine zU ?_)|(refine LS.nilQ ?_;try with_reducible intro nq hnq;try refine zU ?_))
      refine zI ?_ ?_<;>intro h5
      · (repeat first|refine zG ?_|(refine LS.nilO ?_;intro nq hnq hltq;try refine zU ?_)|(refine MS.new ?_;intro bq hbq hbqf;try refine zU ?_)|(refine MS.nil ?_;intro nq hnq hltq;have hlq:=hltq _ _ (Hp.get_eq _ _ _);clear hltq;try refine zU ?_)|(refine LS.nilQ ?_;try with_reducible intro nq hnq;try refine zU ?_))
        refine CS.iter h.N (fun j => [(39, i64 j), (38, i64 h.N), (8, i64 i), (34, i64 i), (33, i64 h.N), (2, ptr n 0), (3, ptr (n + 1) 0), (4, ptr (n + 2) 0), (7, ptr n5 0)]) (fun j => (n5, ⟨522, algC h.p h.N h.u (rowsTo (fun _ => 0) (legs h.p h.m h.c s) (8 * i + j)), 40⟩) :: (n + 2, ⟨522, Zs.c [(2, .int .i64 0), (520, .int .u8 0)], 40⟩) :: (n + 1, ⟨64, bys s, 31⟩) :: (n, ⟨1106, K, 35⟩) :: H) (fun _ => True) (by (repeat first | exact trivial | refine And.intro rfl ?_)) (Drops.refl _ _) trivial ?_
        intro j m2 hj hm2 _
        (repeat first|refine zG ?_|(refine LS.nilO ?_;intro nq hnq hltq;try refine zU ?_)|(refine MS.new ?_;intro bq hbq hbqf;try refine zU ?_)|(refine MS.nil ?_;intro nq hnq hltq;have hlq:=hltq _ _ (Hp.get_eq _ _ _);clear hltq;try refine zU ?_)|(refine LS.nilQ ?_;try with_reducible intro nq hnq;try refine zU ?_))
        refine zI ?_ ?_<;>intro h6
        · (repeat first|refine zG ?_|(refine LS.nilO ?_;intro nq hnq hltq;try refine zU ?_)|(refine MS.new ?_;intro bq hbq hbqf;try refine zU ?_)|(refine MS.nil ?_;intro nq hnq hltq;have hlq:=hltq _ _ (Hp.get_eq _ _ _);clear hltq;try refine zU ?_)|(refine LS.nilQ ?_;try with_reducible intro nq hnq;try refine zU ?_))
          refine LS.callQ (.arr 8 (bys (leg h.p h.m h.c s i j))) rfl (fun n' hn' => Hopf_legProduct h h.N s i j (by omega) (by omega) n (n + 1) 0 ⟨1106, K, 35⟩ ⟨64, bys s, 31⟩ _ _ hS (by exact zH) rfl hK hB hs (by exact zH) (by simp) (fun q hq => by rw [Nat.zero_add]; rfl)) ?_
          (repeat first|refine zG ?_|(refine LS.nilO ?_;intro nq hnq hltq;try refine zU ?_)|(refine MS.new ?_;intro bq hbq hbqf;try refine zU ?_)|(refine MS.nil ?_;intro nq hnq hltq;have hlq:=hltq _ _ (Hp.get_eq _ _ _);clear hltq;try refine zU ?_)|(refine LS.nilQ ?_;try with_reducible intro nq hnq;try refine zU ?_))
          refine ⟨by omega, by (repeat first | exact trivial | refine And.intro rfl ?_), Drops.keepc rfl rfl (fun q hq => algC_row (fun q => ?_) q) (Drops.refl _ _), trivial⟩
          rw [show 64 * i + 8 * j = 8 * (8 * i + j) by omega]
          exact rowsTo_step (fun y hy => by rw [show 8 * (8 * i + j) = 64 * i + 8 * j by omega, legs_at _ _ _ _ _ _ _ (by omega) hy]) q
        · obtain rfl : j = h.N := by omega
          (repeat first|refine zG ?_|(refine LS.nilO ?_;intro nq hnq hltq;try refine zU ?_)|(refine MS.new ?_;intro bq hbq hbqf;try refine zU ?_)|(refine MS.nil ?_;intro nq hnq hltq;have hlq:=hltq _ _ (Hp.get_eq _ _ _);clear hltq;try refine zU ?_)|(refine LS.nilQ ?_;try with_reducible intro nq hnq;try refine zU ?_))
          refine ⟨by omega, by (repeat first | exact trivial | refine And.intro rfl ?_), Drops.keepc rfl rfl (fun q hq => ?_) (Drops.refl _ _), trivial⟩
          rw [rowsTo_more (x := 8 * i + h.N) (y := 8 * (i + 1)) (by omega) (fun q q1 q2 => by rw [leg_zero2 hS.cm (by omega) (by omega)])]
      · obtain rfl : i = h.N := by omega
        (repeat first|refine zG ?_|(refine LS.nilO ?_;intro nq hnq hltq;try refine zU ?_)|(refine MS.new ?_;intro bq hbq hbqf;try refine zU ?_)|(refine MS.nil ?_;intro nq hnq hltq;have hlq:=hltq _ _ (Hp.get_eq _ _ _);clear hltq;try refine zU ?_)|(refine LS.nilQ ?_;try with_reducible intro nq hnq;try refine zU ?_))
        exact ⟨.tup [.arr 522 (algV (mok h 1 (fun _ => s) ∧ (normed h h.N s ∧ cocyc h.p h.m h.c s h.N)) h.p h.n h.u (rowsTo (fun _ => 0) (legs h.p h.m h.c s) (8 * h.N))), i64 (sc5 (mok h 1 (fun _ => s)) (normed h h.N s ∧ cocyc h.p h.m h.c s h.N))], H, conc_tup2 (conc_arr (fun q hq => by rw [algV_true ⟨h3, h4⟩, hS.hn]; first | rfl | (simp only [Nat.zero_add]; done) | (simp only [Nat.zero_add]; rfl))) (by rw [sc5_0 h3 h4]), by exact zD, rfl, rfl⟩
    · rw [tb_false h4]
      (repeat first|refine zG ?_|(refine LS.nilO ?_;intro nq hnq hltq;try refine zU ?_)|(refine MS.new ?_;intro bq hbq hbqf;try refine zU ?_)|(refine MS.nil ?_;intro nq hnq hltq;have hlq:=hltq _ _ (Hp.get_eq _ _ _);clear hltq;try refine zU ?_)|(refine LS.nilQ ?_;try with_reducible intro nq hnq;try refine zU ?_))
      refine RS.call rfl ((impl_unlessB false 5 _ _).mono ?_)
      rintro r H' n4 hn4 ⟨rfl, rfl⟩
      simp only [Bool.false_eq_true, ↓reduceIte]
      (repeat first|refine zG ?_|(refine LS.nilO ?_;intro nq hnq hltq;try refine zU ?_)|(refine MS.new ?_;intro bq hbq hbqf;try refine zU ?_)|(refine MS.nil ?_;intro nq hnq hltq;have hlq:=hltq _ _ (Hp.get_eq _ _ _);clear hltq;try refine zU ?_)|(refine LS.nilQ ?_;try with_reducible intro nq hnq;try refine zU ?_))
      refine RS.call rfl ((impl_first2 n4 2 0 5 _ _ _ (by exact zH) rfl rfl rfl).mono ?_)
      rintro r H' n5 hn5 ⟨rfl, rfl⟩
      simp only [ne_eq, not_true_eq_false, ↓reduceIte]
      (repeat first|refine zG ?_|(refine LS.nilO ?_;intro nq hnq hltq;try refine zU ?_)|(refine MS.new ?_;intro bq hbq hbqf;try refine zU ?_)|(refine MS.nil ?_;intro nq hnq hltq;have hlq:=hltq _ _ (Hp.get_eq _ _ _);clear hltq;try refine zU ?_)|(refine LS.nilQ ?_;try with_reducible intro nq hnq;try refine zU ?_))
      exact ⟨.tup [.arr 522 (algV (mok h 1 (fun _ => s) ∧ (normed h h.N s ∧ cocyc h.p h.m h.c s h.N)) h.p h.n h.u (rowsTo (fun _ => 0) (legs h.p h.m h.c s) (8 * h.N))), i64 (sc5 (mok h 1 (fun _ => s)) (normed h h.N s ∧ cocyc h.p h.m h.c s h.N))], H, conc_tup2 (conc_arr (fun q hq => by rw [algV_false (fun q => h4 q.2)]; first | exact algZ q hq | (simp only [Nat.zero_add]; exact algZ q hq))) (by rw [sc5_5 h3 h4]), by exact zD, rfl, rfl⟩
  · rw [cd_false h3]
    (repeat first|refine zG ?_|(refine LS.nilO ?_;intro nq hnq hltq;try refine zU ?_)|(refine MS.new ?_;intro bq hbq hbqf;try refine zU ?_)|(refine MS.nil ?_;intro nq hnq hltq;have hlq:=hltq _ _ (Hp.get_eq _ _ _);clear hltq;try refine zU ?_)|(refine LS.nilQ ?_;try with_reducible intro nq hnq;try refine zU ?_))
    refine RS.call rfl ((impl_unlessB true 5 _ _).mono ?_)
    rintro r H' n4 hn4 ⟨rfl, rfl⟩
    simp only [↓reduceIte]
    (repeat first|refine zG ?_|(refine LS.nilO ?_;intro nq hnq hltq;try refine zU ?_)|(refine MS.new ?_;intro bq hbq hbqf;try refine zU ?_)|(refine MS.nil ?_;intro nq hnq hltq;have hlq:=hltq _ _ (Hp.get_eq _ _ _);clear hltq;try refine zU ?_)|(refine LS.nilQ ?_;try with_reducible intro nq hnq;try refine zU ?_))
    refine RS.call rfl ((impl_first2 n4 2 1 0 _ _ _ (by exact zH) rfl rfl rfl).mono ?_)
    rintro r H' n5 hn5 ⟨rfl, rfl⟩
    rw [if_pos (by decide)]
    (repeat first|refine zG ?_|(refine LS.nilO ?_;intro nq hnq hltq;try refine zU ?_)|(refine MS.new ?_;intro bq hbq hbqf;try refine zU ?_)|(refine MS.nil ?_;intro nq hnq hltq;have hlq:=hltq _ _ (Hp.get_eq _ _ _);clear hltq;try refine zU ?_)|(refine LS.nilQ ?_;try with_reducible intro nq hnq;try refine zU ?_))
    exact ⟨.tup [.arr 522 (algV (mok h 1 (fun _ => s) ∧ (normed h h.N s ∧ cocyc h.p h.m h.c s h.N)) h.p h.n h.u (rowsTo (fun _ => 0) (legs h.p h.m h.c s) (8 * h.N))), i64 (sc5 (mok h 1 (fun _ => s)) (normed h h.N s ∧ cocyc h.p h.m h.c s h.N))], H, conc_tup2 (conc_arr (fun q hq => by rw [algV_false (fun q => h3 q.1)]; first | exact algZ q hq | (simp only [Nat.zero_add]; exact algZ q hq))) (by rw [sc5_1 h3]), by exact zD, rfl, rfl⟩
/-- laws.FnExactTwistedAlgebra -/
def ir4 : Cd := (.seq (.reg [⟨some 2,none,.box 26 (.t 0)⟩,⟨some 3,none,.box 23 (.t 1)⟩,⟨some 4,none,.mov (.c (.bool false))⟩]) (.seq (.mix [⟨some 10,none,.ld (some 1106) (.t 2)⟩,⟨some 11,none,.call 9 [(.t 10)]⟩,⟨some 12,none,.ld (some 64) (.t 3)⟩,⟨some 13,none,.call 10 [(.t 12)]⟩,⟨some 14,none,.call 12 [(.t 11),(.t 13)]⟩,⟨some 9,none,.mov (.t 14)⟩,⟨some 15,none,.ex (.t 9) 0⟩,⟨some 16,none,.ex (.t 9) 1⟩] [⟨some 5,none,.new 40 [(2,(.int .i64 0)),(520,(.int .u8 0))]⟩,⟨none,none,.st 522 (.t 5) (.t 15)⟩,⟨some 6,none,.mov (.t 16)⟩]) (.seq (.mix [⟨some 18,none,.ld (some 1106) (.t 2)⟩,⟨some 19,none,.call 9 [(.t 18)]⟩,⟨some 20,none,.ld (some 64) (.t 3)⟩,⟨some 21,none,.call 10 [(.t 20)]⟩,⟨some 22,none,.call 13 [(.t 19),(.t 21)]⟩,⟨some 17,none,.mov (.t 22)⟩,⟨some 23,none,.ex (.t 17) 0⟩,⟨some 24,none,.ex (.t 17) 1⟩] [⟨some 7,none,.new 40 [(2,(.int .i64 0)),(520,(.int .u8 0))]⟩,⟨none,none,.st 522 (.t 7) (.t 23)⟩,⟨some 8,none,.mov (.t 24)⟩]) (.seq (.seq (.reg [⟨some 25,none,.ld (some 522) (.t 7)⟩,⟨some 26,none,.ld (some 522) (.t 5)⟩,⟨some 27,none,.call 14 [(.t 25),(.t 26)]⟩,⟨some 28,none,.un .not (.t 27)⟩,⟨some 29,none,.mov (.t 28)⟩,⟨some 30,(some (29,false)),.mov (.t 8)⟩,⟨some 31,(some (29,false)),.mov (.t 6)⟩,⟨some 32,(some (29,false)),.bin .neq (.t 30) (.t 31)⟩,⟨some 33,none,.pick (.t 29) (.c (.bool true)) (.t 32)⟩]) (.cond (.t 33) (.seq (.reg [⟨some 4,none,.mov (.c (.bool false))⟩]) .ret) .skip)) (.seq (.reg [⟨some 4,none,.mov (.c (.bool true))⟩]) .ret)))))
set_option maxRecDepth 100000 in
theorem tr4 : trFn Tryz.prog Tryz.f4 = some (34, ir4, [.tmp 4]) := by kernel_rfl
theorem law_FnExactTwistedAlgebra (z : Nat → Int) (w : ∀ i, (Lit.int (hopfKs.getD i .u8) (z i)).wf = true) (z1 : Nat → Int) (w1 : ∀ i, (Lit.int ((List.replicate 64 .u8 : List IntKind).getD i .u8) (z1 i)).wf = true) (n : Nat) :
    FnS Tryz.prog 4 [.arr 1106 fun i => .int (hopfKs.getD i .u8) (z i), .arr 64 fun i => .int ((List.replicate 64 .u8 : List IntKind).getD i .u8) (z1 i)] [] n (fun r H' _ => r = bl true ∧ H' = []) := by
  have hK := hOf_at z
  have hB := hOf_by w
  generalize hOf z = h at hK hB
  generalize (fun i => SV.int (hopfKs.getD i .u8) (z i)) = K at hK ⊢
  simp only [flat_bys]
  refine FnS.of_body Tryz.func4 tr4 (by simp) (fun hf => ?_)
  dsimp only [argEnv]
  unfold ir4
  (repeat first|refine zG ?_|(refine LS.nilO ?_;intro nq hnq hltq;try refine zU ?_)|(refine MS.new ?_;intro bq hbq hbqf;try refine zU ?_)|(refine MS.nil ?_;intro nq hnq hltq;have hlq:=hltq _ _ (Hp.get_eq _ _ _);clear hltq;try refine zU ?_)|(refine LS.nilQ ?_;try with_reducible intro nq hnq;try refine zU ?_))
  refine LS.callQ (.arr 1106 K) rfl (fun n' hn' => laws_toHopf h K _ _ hK) ?_
  (repeat first|refine zG ?_|(refine LS.nilO ?_;intro nq hnq hltq;try refine zU ?_)|(refine MS.new ?_;intro bq hbq hbqf;try refine zU ?_)|(refine MS.nil ?_;intro nq hnq hltq;have hlq:=hltq _ _ (Hp.get_eq _ _ _);clear hltq;try refine zU ?_)|(refine LS.nilQ ?_;try with_reducible intro nq hnq;try refine zU ?_))
  refine LS.callQ (.arr 64 (bys z1)) rfl (fun n' hn' => laws_toLinear z1 _ _) ?_
  (repeat first|refine zG ?_|(refine LS.nilO ?_;intro nq hnq hltq;try refine zU ?_)|(refine MS.new ?_;intro bq hbq hbqf;try refine zU ?_)|(refine MS.nil ?_;intro nq hnq hltq;have hlq:=hltq _ _ (Hp.get_eq _ _ _);clear hltq;try refine zU ?_)|(refine LS.nilQ ?_;try with_reducible intro nq hnq;try refine zU ?_))
  refine LS.callQ (.tup [.arr 522 (algV (mok h 1 (fun _ => z1) ∧ (normed h h.N z1 ∧ cocyc h.p h.m h.c z1 h.N)) h.p h.n h.u (rowsTo (fun _ => 0) (legs h.p h.m h.c z1) (8 * h.N))), i64 (sc5 (mok h 1 (fun _ => z1)) (normed h h.N z1 ∧ cocyc h.p h.m h.c z1 h.N))]) rfl (fun n' hn' => spec_TwistedAlgebra h z1 K _ _ hK hB (flat_by w1)) ?_
  (repeat first|refine zG ?_|(refine LS.nilO ?_;intro nq hnq hltq;try refine zU ?_)|(refine MS.new ?_;intro bq hbq hbqf;try refine zU ?_)|(refine MS.nil ?_;intro nq hnq hltq;have hlq:=hltq _ _ (Hp.get_eq _ _ _);clear hltq;try refine zU ?_)|(refine LS.nilQ ?_;try with_reducible intro nq hnq;try refine zU ?_))
  refine LS.callQ (.arr 1106 K) rfl (fun n' hn' => laws_toHopf h K _ _ hK) ?_
  (repeat first|refine zG ?_|(refine LS.nilO ?_;intro nq hnq hltq;try refine zU ?_)|(refine MS.new ?_;intro bq hbq hbqf;try refine zU ?_)|(refine MS.nil ?_;intro nq hnq hltq;have hlq:=hltq _ _ (Hp.get_eq _ _ _);clear hltq;try refine zU ?_)|(refine LS.nilQ ?_;try with_reducible intro nq hnq;try refine zU ?_))
  refine LS.callQ (.arr 64 (bys z1)) rfl (fun n' hn' => laws_toLinear z1 _ _) ?_
  (repeat first|refine zG ?_|(refine LS.nilO ?_;intro nq hnq hltq;try refine zU ?_)|(refine MS.new ?_;intro bq hbq hbqf;try refine zU ?_)|(refine MS.nil ?_;intro nq hnq hltq;have hlq:=hltq _ _ (Hp.get_eq _ _ _);clear hltq;try refine zU ?_)|(refine LS.nilQ ?_;try with_reducible intro nq hnq;try refine zU ?_))
  refine LS.callQ (.tup [.arr 522 (algV (mok h 1 (fun _ => z1) ∧ (normed h h.N z1 ∧ cocyc h.p h.m h.c z1 h.N)) h.p h.n h.u (rowsTo (fun _ => 0) (legs h.p h.m h.c z1) (8 * h.N))), i64 (sc5 (mok h 1 (fun _ => z1)) (normed h h.N z1 ∧ cocyc h.p h.m h.c z1 h.N))]) rfl (fun n' hn' => impl_TwistedAlgebra h z1 K _ _ hK hB (flat_by w1)) ?_
  (repeat first|refine zG ?_|(refine LS.nilO ?_;intro nq hnq hltq;try refine zU ?_)|(refine MS.new ?_;intro bq hbq hbqf;try refine zU ?_)|(refine MS.nil ?_;intro nq hnq hltq;have hlq:=hltq _ _ (Hp.get_eq _ _ _);clear hltq;try refine zU ?_)|(refine LS.nilQ ?_;try with_reducible intro nq hnq;try refine zU ?_))
  obtain ⟨p1, n1, u1, m1, e1⟩ := algV_is (mok h 1 (fun _ => z1) ∧ (normed h h.N z1 ∧ cocyc h.p h.m h.c z1 h.N)) h.p h.n h.u (rowsTo (fun _ => 0) (legs h.p h.m h.c z1) (8 * h.N))
  rw [e1]
  (repeat first|refine zG ?_|(refine LS.nilO ?_;intro nq hnq hltq;try refine zU ?_)|(refine MS.new ?_;intro bq hbq hbqf;try refine zU ?_)|(refine MS.nil ?_;intro nq hnq hltq;have hlq:=hltq _ _ (Hp.get_eq _ _ _);clear hltq;try refine zU ?_)|(refine LS.nilQ ?_;try with_reducible intro nq hnq;try refine zU ?_))
  refine RS.call rfl ((laws_eqAlgebra p1 n1 u1 m1 _ _).mono ?_)
  rintro r H' n6 hn6 ⟨rfl, rfl⟩
  (repeat first|refine zG ?_|(refine LS.nilO ?_;intro nq hnq hltq;try refine zU ?_)|(refine MS.new ?_;intro bq hbq hbqf;try refine zU ?_)|(refine MS.nil ?_;intro nq hnq hltq;have hlq:=hltq _ _ (Hp.get_eq _ _ _);clear hltq;try refine zU ?_)|(refine LS.nilQ ?_;try with_reducible intro nq hnq;try refine zU ?_))
  simp only [bne_self_eq_false]
  (repeat first|refine zG ?_|(refine LS.nilO ?_;intro nq hnq hltq;try refine zU ?_)|(refine MS.new ?_;intro bq hbq hbqf;try refine zU ?_)|(refine MS.nil ?_;intro nq hnq hltq;have hlq:=hltq _ _ (Hp.get_eq _ _ _);clear hltq;try refine zU ?_)|(refine LS.nilQ ?_;try with_reducible intro nq hnq;try refine zU ?_))
  exact ⟨_, [], rfl, by exact zD, rfl, rfl⟩
end Go.Proofs.YtbknndbfbebkdaaGreatR
