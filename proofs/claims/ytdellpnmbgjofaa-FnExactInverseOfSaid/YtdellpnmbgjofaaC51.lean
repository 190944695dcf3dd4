/- What leads to a vector, codes of a vector of an algebra, inverses: the spec's. -/
import Derived.Test.YtdellpnmbgjofaaC50
namespace Go.V
theorem Drops.setself {m : Nat} {H : Hp} {b : Nat} {k : Blk} {c : Nat → SV} (hb : H.get b = some k) (hc : ∀ i, i < k.size → k.c i = c i) : Drops m H (H.set b c) := by
  intro b'
  by_cases e : b = b'
  · subst e; exact .inr ⟨k, _, hb, Hp.get_set_self c hb, rfl, rfl, hc⟩
  · rw [Hp.get_set_other _ e]; exact Drops.refl m H b'
end Go.V
namespace Go.Proofs.Ytdellpnmbgjofaa
open Go.V
set_option linter.unusedSimpArgs false
set_option linter.unusedVariables false
set_option maxHeartbeats 4000000

/-- spec.l01Lift -/
def ir10 : Cd := (.seq (.reg [⟨some 6,none,.box 31 (.t 2)⟩,⟨some 7,none,.box 27 (.t 3)⟩,⟨some 8,none,.new 27 [(8,(.int .u8 0))]⟩,⟨some 9,none,.mov (.c (.bool false))⟩]) (.seq (.reg [⟨some 18,none,.mov (.t 0)⟩,⟨some 19,none,.mov (.t 1)⟩,⟨some 20,none,.ld (some 64) (.t 6)⟩,⟨some 21,none,.call 23 [(.t 18),(.t 19),(.t 20)]⟩,⟨some 17,none,.mov (.t 21)⟩,⟨some 22,none,.ex (.t 17) 0⟩,⟨some 23,none,.ex (.t 17) 1⟩,⟨some 24,none,.ex (.t 17) 2⟩,⟨some 10,none,.mov (.t 22)⟩,⟨some 11,none,.mov (.t 23)⟩,⟨some 12,none,.mov (.t 24)⟩]) (.seq (.reg [⟨some 25,none,.build 8 [(8,(.int .u8 0))] []⟩,⟨some 13,none,.new 27 [(8,(.int .u8 0))]⟩,⟨none,none,.st 8 (.t 13) (.t 25)⟩]) (.seq (.seq (.reg [⟨some 14,none,.mov (.c (.int .i64 0))⟩]) (.block 0 (.loop (.seq (.seq (.reg [⟨some 26,none,.mov (.t 14)⟩,⟨some 27,none,.mov (.t 10)⟩,⟨some 28,none,.len (.t 27)⟩,⟨some 29,none,.bin .lss (.t 26) (.t 28)⟩]) (.cond (.t 29) .skip (.exit 0))) (.seq (.block 1 (.seq (.reg [⟨some 32,none,.mov (.t 10)⟩,⟨some 33,none,.mov (.t 14)⟩,⟨some 34,none,.isl 8 (.t 32) (.t 33)⟩,⟨some 35,none,.ld (some 8) (.t 34)⟩,⟨some 36,none,.call 24 [(.t 35)]⟩,⟨some 15,none,.mov (.t 36)⟩]) (.seq (.reg [⟨some 37,none,.mov (.t 15)⟩,⟨some 38,none,.ia 8 1 (.t 7) (.t 37)⟩,⟨some 39,none,.ld none (.t 38)⟩,⟨some 40,none,.bin .neq (.t 39) (.c (.int .u8 0))⟩]) (.cond (.t 40) (.seq (.reg [⟨some 41,none,.mov (.t 15)⟩,⟨some 42,none,.ia 8 1 (.t 7) (.t 41)⟩,⟨some 43,none,.ld none (.t 42)⟩,⟨some 44,none,.cv .i64 (.t 43)⟩,⟨some 16,none,.mov (.t 44)⟩]) (.seq (.drw true [8,9] [⟨some 45,none,.mov (.t 0)⟩,⟨some 46,none,.ld (some 8) (.t 7)⟩,⟨some 47,none,.mov (.t 10)⟩,⟨some 48,none,.mov (.t 14)⟩,⟨some 49,none,.isl 8 (.t 47) (.t 48)⟩,⟨some 50,none,.ld (some 8) (.t 49)⟩,⟨some 51,none,.mov (.t 16)⟩,⟨some 52,none,.un .neg (.t 51)⟩,⟨some 53,none,.call 25 [(.t 45),(.t 46),(.t 50),(.t 52)]⟩,⟨none,none,.st 8 (.t 7) (.t 53)⟩]) (.drw true [7,8] [⟨some 54,none,.mov (.t 0)⟩,⟨some 55,none,.ld (some 8) (.t 13)⟩,⟨some 56,none,.mov (.t 11)⟩,⟨some 57,none,.mov (.t 14)⟩,⟨some 58,none,.isl 8 (.t 56) (.t 57)⟩,⟨some 59,none,.ld (some 8) (.t 58)⟩,⟨some 60,none,.mov (.t 16)⟩,⟨some 61,none,.call 25 [(.t 54),(.t 55),(.t 59),(.t 60)]⟩,⟨none,none,.st 8 (.t 13) (.t 61)⟩]))) .skip)))) (.reg [⟨some 30,none,.mov (.t 14)⟩,⟨some 31,none,.bin .add (.t 30) (.c (.int .i64 1))⟩,⟨some 14,none,.mov (.t 31)⟩])))))) (.seq (.drw true [3] [⟨some 62,none,.ld (some 8) (.t 13)⟩,⟨some 63,none,.ld (some 8) (.t 7)⟩,⟨some 64,none,.call 26 [(.t 63)]⟩,⟨none,none,.st 8 (.t 8) (.t 62)⟩,⟨some 9,none,.mov (.t 64)⟩]) .ret)))))
set_option maxRecDepth 100000 in
theorem tr10 : trFn Try.prog Try.f10 = some (65, ir10, [.cell (some 8) 8, .tmp 9]) := by kernel_rfl

theorem spec_l01Lift (p : Int) (a : Nat) (f v : Nat → Int) (H : Hp) (n : Nat) (hp : isP p = true) (ha : a ≤ 8) (hfr : isRes p 64 f) (hv : isRes p 8 v) :
    FnS Try.prog 10 [i64 p, i64 a, .arr 64 (bys f), .arr 8 (bys v)] H n (fun r H' _ => r = .tup [.arr 8 (bys (lfw p f v a)), bl (tb (∀ q, q < 8 → lfr p f v a q = 0))] ∧ H' = H) := by
  have hb := isP_le hp
  refine FnS.of_body Try.func10 tr10 (by simp) (fun hf => ?_)
  dsimp only [argEnv]
  unfold ir10
  (repeat first|refine zG ?_|(refine LS.nilO ?_;intro nq hnq hltq;try refine zU ?_)|(refine MS.new ?_;intro bq hbq hbqf;try refine zU ?_)|(refine MS.nil ?_;intro nq hnq hltq;have hlq:=hltq _ _ (Hp.get_eq _ _ _);clear hltq;try refine zU ?_)|(refine LS.nilQ ?_;try with_reducible intro nq hnq;try refine zU ?_))
  refine RS.call rfl ((spec_l01Solve p a f _ _ hp ha hfr).mono ?_)
  rintro r H1 n2 hn2 ⟨m, I, S, v9, v10, v11, b9, b10, rfl, hsrc, hgs, hl9, hl10, g9, g10, hlow⟩
  obtain ⟨o9, c9, K9, rfl, gb9, ho9, hm9, hc9⟩ := hl9
  obtain ⟨o10, c10, K10, rfl, gb10, ho10, hm10, hc10⟩ := hl10
  have hmi := hsrc.mi
  have g7 : H1.get (n + 1) = some ⟨8, bys v, 27⟩ := by rw [hlow (n + 1) (by omega)]; exact zH
  have g8 : ∃ k8, H1.get (n + 2) = some k8 ∧ k8.size = 8 := ⟨_, by rw [hlow (n + 2) (by omega)]; exact zH, rfl⟩
  obtain ⟨k8, g8, s8⟩ := g8
  have hlow0 : ∀ x, x < n → H1.get x = H.get x := fun x hx => by rw [hlow x (by omega)]; simp (disch := omega) only [Hp.get_ne]
  (repeat first|refine zG ?_|(refine LS.nilO ?_;intro nq hnq hltq;try refine zU ?_)|(refine MS.new ?_;intro bq hbq hbqf;try refine zU ?_)|(refine MS.nil ?_;intro nq hnq hltq;have hlq:=hltq _ _ (Hp.get_eq _ _ _);clear hltq;try refine zU ?_)|(refine LS.nilQ ?_;try with_reducible intro nq hnq;try refine zU ?_))
  refine CS.iter m (fun k => [(14, i64 k), (13, ptr n2 0), (0, i64 p), (1, i64 a), (7, ptr (n + 1) 0), (8, ptr (n + 2) 0), (10, .s (.slc b9 o9 m c9)), (11, .s (.slc b10 o10 m c10))])
    (fun k => (n2, ⟨8, bys (rdw p I S v (fun _ => 0) 1 k), 27⟩) :: H1.set (n + 1) (bys (rdk p I v k))) (fun _ => True) (by (repeat first | exact trivial | refine And.intro rfl ?_)) (Drops.keepc rfl rfl (fun _ _ => rfl) (Drops.setself g7 (fun _ _ => rfl))) trivial ?_
  intro k n3 hk hn3 _
  (repeat first|refine zG ?_|(refine LS.nilO ?_;intro nq hnq hltq;try refine zU ?_)|(refine MS.new ?_;intro bq hbq hbqf;try refine zU ?_)|(refine MS.nil ?_;intro nq hnq hltq;have hlq:=hltq _ _ (Hp.get_eq _ _ _);clear hltq;try refine zU ?_)|(refine LS.nilQ ?_;try with_reducible intro nq hnq;try refine zU ?_))
  refine zI ?_ ?_<;>intro h3
  · have e9 : ∀ q, q < 8 → K9.c (o9 + k * 8 + q) = .int .u8 (I k q) := fun q hq => by rw [Nat.add_assoc]; exact hc9 k q (by omega) hq
    have e10 : ∀ q, q < 8 → K10.c (o10 + k * 8 + q) = .int .u8 (S k q) := fun q hq => by rw [Nat.add_assoc]; exact hc10 k q (by omega) hq
    have hIb : isBy 8 (I k) := isRes.by (hsrc.res k (by omega)) hb.2
    have hSb : isBy 8 (S k) := isRes.by (hsrc.sres k (by omega)) hb.2
    have hlt := hsrc.lt k (by omega)
    have hrk : isRes p 8 (rdk p I v k) := rdk_res hb.1 hv k
    have hrw : isRes p 8 (rdw p I S v (fun _ => 0) 1 k) := rdw_res hb.1 (fun _ _ => ⟨by (try dsimp only); omega, by (try dsimp only); omega⟩) k
    have hrt := hrk (fsn (I k) 8) hlt
    have hr1 : (bys (rdk p I v k)) (fsn (I k) 8) = .int .u8 (rdk p I v k (fsn (I k) 8)) := rfl
    have gb9' : (H1.set (n + 1) (bys (rdk p I v k))).get b9 = some K9 := by rw [Hp.get_set_other _ (by omega)]; exact gb9
    have gb10' : (H1.set (n + 1) (bys (rdk p I v k))).get b10 = some K10 := by rw [Hp.get_set_other _ (by omega)]; exact gb10
    have g7' : (H1.set (n + 1) (bys (rdk p I v k))).get (n + 1) = some ⟨8, bys (rdk p I v k), 27⟩ := Hp.get_set_self _ g7
    (repeat first|refine zG ?_|(refine LS.nilO ?_;intro nq hnq hltq;try refine zU ?_)|(refine MS.new ?_;intro bq hbq hbqf;try refine zU ?_)|(refine MS.nil ?_;intro nq hnq hltq;have hlq:=hltq _ _ (Hp.get_eq _ _ _);clear hltq;try refine zU ?_)|(refine LS.nilQ ?_;try with_reducible intro nq hnq;try refine zU ?_))
    refine RS.call rfl ((spec_l01First (I k) _ _).mono ?_)
    rintro r H' n4 hn4 ⟨rfl, rfl⟩
    (repeat first|refine zG ?_|(refine LS.nilO ?_;intro nq hnq hltq;try refine zU ?_)|(refine MS.new ?_;intro bq hbq hbqf;try refine zU ?_)|(refine MS.nil ?_;intro nq hnq hltq;have hlq:=hltq _ _ (Hp.get_eq _ _ _);clear hltq;try refine zU ?_)|(refine LS.nilQ ?_;try with_reducible intro nq hnq;try refine zU ?_))
    refine zI ?_ ?_<;>intro h4
    · (repeat first|refine zG ?_|(refine LS.nilO ?_;intro nq hnq hltq;try refine zU ?_)|(refine MS.new ?_;intro bq hbq hbqf;try refine zU ?_)|(refine MS.nil ?_;intro nq hnq hltq;have hlq:=hltq _ _ (Hp.get_eq _ _ _);clear hltq;try refine zU ?_)|(refine LS.nilQ ?_;try with_reducible intro nq hnq;try refine zU ?_))
      refine RS.neg64 (by exact rfl) (by omega) ?_
      (repeat first|refine zG ?_|(refine LS.nilO ?_;intro nq hnq hltq;try refine zU ?_)|(refine MS.new ?_;intro bq hbq hbqf;try refine zU ?_)|(refine MS.nil ?_;intro nq hnq hltq;have hlq:=hltq _ _ (Hp.get_eq _ _ _);clear hltq;try refine zU ?_)|(refine LS.nilQ ?_;try with_reducible intro nq hnq;try refine zU ?_))
      refine RS.call rfl ((spec_l01AddN p (-(rdk p I v k (fsn (I k) 8))) (rdk p I v k) (I k) _ _ hb (isRes.by hrk hb.2) hIb (by omega)).mono ?_)
      rintro r H' n5 hn5 ⟨rfl, rfl⟩
      (repeat first|refine zG ?_|(refine LS.nilO ?_;intro nq hnq hltq;try refine zU ?_)|(refine MS.new ?_;intro bq hbq hbqf;try refine zU ?_)|(refine MS.nil ?_;intro nq hnq hltq;have hlq:=hltq _ _ (Hp.get_eq _ _ _);clear hltq;try refine zU ?_)|(refine LS.nilQ ?_;try with_reducible intro nq hnq;try refine zU ?_))
      refine RS.call rfl ((spec_l01AddN p (rdk p I v k (fsn (I k) 8)) (rdw p I S v (fun _ => 0) 1 k) (S k) _ _ hb (isRes.by hrw hb.2) hSb (by omega)).mono ?_)
      rintro r H' n6 hn6 ⟨rfl, rfl⟩
      (repeat first|refine zG ?_|(refine LS.nilO ?_;intro nq hnq hltq;try refine zU ?_)|(refine MS.new ?_;intro bq hbq hbqf;try refine zU ?_)|(refine MS.nil ?_;intro nq hnq hltq;have hlq:=hltq _ _ (Hp.get_eq _ _ _);clear hltq;try refine zU ?_)|(refine LS.nilQ ?_;try with_reducible intro nq hnq;try refine zU ?_))
      exact ⟨by omega, by (repeat first | exact trivial | refine And.intro rfl ?_), Drops.keepc rfl rfl (fun q hq => by rw [rdw_succ, Int.one_mul]) (Drops.refl _ _), trivial⟩
    · (repeat first|refine zG ?_|(refine LS.nilO ?_;intro nq hnq hltq;try refine zU ?_)|(refine MS.new ?_;intro bq hbq hbqf;try refine zU ?_)|(refine MS.nil ?_;intro nq hnq hltq;have hlq:=hltq _ _ (Hp.get_eq _ _ _);clear hltq;try refine zU ?_)|(refine LS.nilQ ?_;try with_reducible intro nq hnq;try refine zU ?_))
      exact ⟨by omega, by (repeat first | exact trivial | refine And.intro rfl ?_), Drops.keepc rfl rfl (fun q hq => congrArg (SV.int .u8) (rdw_same hb.1 (fun _ _ => ⟨by (try dsimp only); omega, by (try dsimp only); omega⟩) h4 hq).symm) (Drops.setc g7 (fun q hq => congrArg (SV.int .u8) (rdk_same hb.1 hv h4 hq).symm)), trivial⟩
  · obtain rfl : k = m := by omega
    have g8' : (H1.set (n + 1) (bys (rdk p I v k))).get (n + 2) = some k8 := by rw [Hp.get_set_other _ (by omega)]; exact g8
    (repeat first|refine zG ?_|(refine LS.nilO ?_;intro nq hnq hltq;try refine zU ?_)|(refine MS.new ?_;intro bq hbq hbqf;try refine zU ?_)|(refine MS.nil ?_;intro nq hnq hltq;have hlq:=hltq _ _ (Hp.get_eq _ _ _);clear hltq;try refine zU ?_)|(refine LS.nilQ ?_;try with_reducible intro nq hnq;try refine zU ?_))
    refine LS.callQ (bl (tb (∀ q, q < 8 → rdk p I v k q = 0))) rfl (fun n' hn' => spec_l01Zero (rdk p I v k) _ _) ?_
    (repeat first|refine zG ?_|(refine LS.nilO ?_;intro nq hnq hltq;try refine zU ?_)|(refine MS.new ?_;intro bq hbq hbqf;try refine zU ?_)|(refine MS.nil ?_;intro nq hnq hltq;have hlq:=hltq _ _ (Hp.get_eq _ _ _);clear hltq;try refine zU ?_)|(refine LS.nilQ ?_;try with_reducible intro nq hnq;try refine zU ?_))
    exact ⟨.tup [.arr 8 (bys (rdw p I S v (fun _ => 0) 1 k)), bl (tb (∀ q, q < 8 → rdk p I v k q = 0))], H, conc_tup2 (conc_arr (fun q hq => by (try dsimp only); unfold splice; rw [if_pos (by omega)]; simp only [Nat.zero_add, Nat.sub_zero])) rfl,
      Drops.low hf (fun b hb => by simp (disch := omega) only [Hp.get_ne, Hp.get_set_other]; exact hlow0 b hb), by unfold lfw lfr; rw [hgs], rfl⟩

/-- spec.l01Code -/
def ir9 : Cd := (.seq (.reg [⟨some 2,none,.box 35 (.t 0)⟩,⟨some 4,none,.mov (.c (.int .i64 0))⟩]) (.seq (.seq (.reg [⟨some 6,none,.ld (some 522) (.t 2)⟩,⟨some 7,none,.call 21 [(.t 6)]⟩,⟨some 8,none,.un .not (.t 7)⟩]) (.cond (.t 8) (.seq (.reg [⟨some 4,none,.mov (.c (.int .i64 1))⟩]) .ret) .skip)) (.seq (.seq (.reg [⟨some 5,none,.mov (.c (.int .i64 0))⟩]) (.block 0 (.loop (.seq (.seq (.reg [⟨some 9,none,.mov (.t 5)⟩,⟨some 10,none,.mov (.t 1)⟩,⟨some 11,none,.len (.t 10)⟩,⟨some 12,none,.bin .lss (.t 9) (.t 11)⟩]) (.cond (.t 12) .skip (.exit 0))) (.seq (.block 1 (.seq (.drw true [8] [⟨some 15,none,.fa 0 (.t 2)⟩,⟨some 16,none,.ld none (.t 15)⟩,⟨some 17,none,.fa 1 (.t 2)⟩,⟨some 18,none,.ld none (.t 17)⟩,⟨some 19,none,.mov (.t 1)⟩,⟨some 20,none,.mov (.t 5)⟩,⟨some 21,none,.isl 8 (.t 19) (.t 20)⟩,⟨some 22,none,.ld (some 8) (.t 21)⟩,⟨some 23,none,.call 22 [(.t 16),(.t 18),(.t 22)]⟩,⟨some 24,none,.un .not (.t 23)⟩]) (.cond (.t 24) (.seq (.reg [⟨some 4,none,.mov (.c (.int .i64 1))⟩]) .ret) .skip))) (.reg [⟨some 13,none,.mov (.t 5)⟩,⟨some 14,none,.bin .add (.t 13) (.c (.int .i64 1))⟩,⟨some 5,none,.mov (.t 14)⟩])))))) (.seq (.reg [⟨some 4,none,.mov (.c (.int .i64 0))⟩]) .ret))))
set_option maxRecDepth 100000 in
theorem tr9 : trFn Try.prog Try.f9 = some (25, ir9, [.tmp 4]) := by kernel_rfl

theorem spec_l01Code (p n' : Int) (u m v : Nat → Int) (b : Nat) (Kb : Blk) (K : Nat → SV) (H : Hp) (n : Nat) (h0 : K 0 = .int .i64 p) (h1 : K 1 = .int .i64 n')
    (hU : ∀ q, q < 8 → K (2 + q) = .int .u8 (u q)) (hK : ∀ q, q < 512 → K (10 + q) = .int .u8 (m q)) (hu : isBy 8 u) (hm : isBy 512 m) (hv : isBy 8 v) (gb : H.get b = some Kb) (sb : 8 ≤ Kb.size) (cb : ∀ q, q < 8 → Kb.c q = .int .u8 (v q)) :
    FnS Try.prog 9 [.arr 522 K, .s (.slc b 0 1 1)] H n (fun r H' _ => r = i64 (cd (isAlg p n' u m ∧ isVec p n' v)) ∧ H' = H) := by
  refine FnS.of_body Try.func9 tr9 (by simp) (fun hf => ?_)
  dsimp only [argEnv]
  unfold ir9
  have hbn := getlt hf gb
  (repeat first|refine zG ?_|(refine LS.nilO ?_;intro nq hnq hltq;try refine zU ?_)|(refine MS.new ?_;intro bq hbq hbqf;try refine zU ?_)|(refine MS.nil ?_;intro nq hnq hltq;have hlq:=hltq _ _ (Hp.get_eq _ _ _);clear hltq;try refine zU ?_)|(refine LS.nilQ ?_;try with_reducible intro nq hnq;try refine zU ?_))
  refine RS.call rfl ((FnS.args (concs_cons (conc_arr (fun q hq => rfl)) rfl) (spec_l01Is p n' u m K _ _ h0 h1 hU hK hu hm)).mono ?_)
  rintro r H' n2 hn2 ⟨rfl, rfl⟩
  (repeat first|refine zG ?_|(refine LS.nilO ?_;intro nq hnq hltq;try refine zU ?_)|(refine MS.new ?_;intro bq hbq hbqf;try refine zU ?_)|(refine MS.nil ?_;intro nq hnq hltq;have hlq:=hltq _ _ (Hp.get_eq _ _ _);clear hltq;try refine zU ?_)|(refine LS.nilQ ?_;try with_reducible intro nq hnq;try refine zU ?_))
  refine zI ?_ ?_<;>intro h2
  · (repeat first|refine zG ?_|(refine LS.nilO ?_;intro nq hnq hltq;try refine zU ?_)|(refine MS.new ?_;intro bq hbq hbqf;try refine zU ?_)|(refine MS.nil ?_;intro nq hnq hltq;have hlq:=hltq _ _ (Hp.get_eq _ _ _);clear hltq;try refine zU ?_)|(refine LS.nilQ ?_;try with_reducible intro nq hnq;try refine zU ?_))
    exact ⟨i64 1, H, rfl, by exact zD, by rw [cd_false (fun q => h2 q.1)], rfl⟩
  · (repeat first|refine zG ?_|(refine LS.nilO ?_;intro nq hnq hltq;try refine zU ?_)|(refine MS.new ?_;intro bq hbq hbqf;try refine zU ?_)|(refine MS.nil ?_;intro nq hnq hltq;have hlq:=hltq _ _ (Hp.get_eq _ _ _);clear hltq;try refine zU ?_)|(refine LS.nilQ ?_;try with_reducible intro nq hnq;try refine zU ?_))
    refine CS.iter 1 (fun i => [(5, i64 i), (2, ptr n 0), (1, .s (.slc b 0 1 1))]) (fun _ => (n, ⟨522, K, 35⟩) :: H) (fun i => Fx (i = 1 → isVec p n' v)) (by (repeat first | exact trivial | refine And.intro rfl ?_)) (Drops.refl _ _) ⟨fun h => by omega⟩ ?_
    intro i n3 hi hn3 hJ
    (repeat first|refine zG ?_|(refine LS.nilO ?_;intro nq hnq hltq;try refine zU ?_)|(refine MS.new ?_;intro bq hbq hbqf;try refine zU ?_)|(refine MS.nil ?_;intro nq hnq hltq;have hlq:=hltq _ _ (Hp.get_eq _ _ _);clear hltq;try refine zU ?_)|(refine LS.nilQ ?_;try with_reducible intro nq hnq;try refine zU ?_))
    refine zI ?_ ?_<;>intro h4
    · obtain rfl : i = 0 := by omega
      have cb0 : ∀ q, q < 8 → Kb.c (0 + 0 * 8 + q) = .int .u8 (v q) := fun q hq => by rw [show 0 + 0 * 8 + q = q by omega]; exact cb q hq
      (repeat first|refine zG ?_|(refine LS.nilO ?_;intro nq hnq hltq;try refine zU ?_)|(refine MS.new ?_;intro bq hbq hbqf;try refine zU ?_)|(refine MS.nil ?_;intro nq hnq hltq;have hlq:=hltq _ _ (Hp.get_eq _ _ _);clear hltq;try refine zU ?_)|(refine LS.nilQ ?_;try with_reducible intro nq hnq;try refine zU ?_))
      refine RS.call rfl ((FnS.args (concs_cons rfl (concs_cons rfl (concs_cons (conc_arr (fun q hq => by (try dsimp only [bys]); rw [show 0 * 8 + q = q by omega])) rfl))) (spec_l01Vector p n' v _ _ hv)).mono ?_)
      rintro r H' n4 hn4 ⟨rfl, rfl⟩
      (repeat first|refine zG ?_|(refine LS.nilO ?_;intro nq hnq hltq;try refine zU ?_)|(refine MS.new ?_;intro bq hbq hbqf;try refine zU ?_)|(refine MS.nil ?_;intro nq hnq hltq;have hlq:=hltq _ _ (Hp.get_eq _ _ _);clear hltq;try refine zU ?_)|(refine LS.nilQ ?_;try with_reducible intro nq hnq;try refine zU ?_))
      refine zI ?_ ?_<;>intro h5
      · (repeat first|refine zG ?_|(refine LS.nilO ?_;intro nq hnq hltq;try refine zU ?_)|(refine MS.new ?_;intro bq hbq hbqf;try refine zU ?_)|(refine MS.nil ?_;intro nq hnq hltq;have hlq:=hltq _ _ (Hp.get_eq _ _ _);clear hltq;try refine zU ?_)|(refine LS.nilQ ?_;try with_reducible intro nq hnq;try refine zU ?_))
        exact ⟨i64 1, H, rfl, by exact zD, by rw [cd_false (fun q => h5 q.2)], rfl⟩
      · (repeat first|refine zG ?_|(refine LS.nilO ?_;intro nq hnq hltq;try refine zU ?_)|(refine MS.new ?_;intro bq hbq hbqf;try refine zU ?_)|(refine MS.nil ?_;intro nq hnq hltq;have hlq:=hltq _ _ (Hp.get_eq _ _ _);clear hltq;try refine zU ?_)|(refine LS.nilQ ?_;try with_reducible intro nq hnq;try refine zU ?_))
        exact ⟨by omega, by (repeat first | exact trivial | refine And.intro rfl ?_), Drops.refl _ _, ⟨fun _ => h5⟩⟩
    · obtain rfl : i = 1 := by omega
      (repeat first|refine zG ?_|(refine LS.nilO ?_;intro nq hnq hltq;try refine zU ?_)|(refine MS.new ?_;intro bq hbq hbqf;try refine zU ?_)|(refine MS.nil ?_;intro nq hnq hltq;have hlq:=hltq _ _ (Hp.get_eq _ _ _);clear hltq;try refine zU ?_)|(refine LS.nilQ ?_;try with_reducible intro nq hnq;try refine zU ?_))
      exact ⟨i64 0, H, rfl, by exact zD, by rw [cd_true ⟨h2, hJ.out rfl⟩], rfl⟩

end Go.Proofs.Ytdellpnmbgjofaa
