/- Contracts of the program's functions. -/
import Derived.Test.YtbknndbfbebkdabGreatRR
import Derived.Test.YtbknndbfbebkdabGreatRLW
import Derived.Test.YtbknndbfbebkdabGreatRF5a
namespace Go.Proofs.YtbknndbfbebkdabGreatR
open Go.V
set_option linter.unusedSimpArgs false
set_option linter.unusedVariables false
set_option maxHeartbeats 4000000
/-- spec.l09Fails -/
def ir46 : Cd := (.seq (.reg [⟨some 2,none,.box 35 (.t 0)⟩,⟨some 3,none,.box 29 (.t 1)⟩,⟨some 4,none,.mov (.c (.int .i64 0))⟩]) (.seq (.seq (.reg [⟨some 5,none,.mov (.c (.int .i64 0))⟩]) (.block 0 (.loop (.seq (.seq (.reg [⟨some 8,none,.mov (.t 5)⟩,⟨some 9,none,.fa 1 (.t 2)⟩,⟨some 10,none,.ld none (.t 9)⟩,⟨some 11,none,.bin .lss (.t 8) (.t 10)⟩]) (.cond (.t 11) .skip (.exit 0))) (.seq (.block 1 (.seq (.drwo true [16] [0,1,2,3,4,5,7,8,9,10,11,12,13,15,6,14,16,17] [⟨some 14,none,.ld (some 1106) (.t 2)⟩,⟨some 15,none,.ld (some 64) (.t 3)⟩,⟨some 16,none,.mov (.t 5)⟩,⟨some 17,none,.fa 530 (.t 2)⟩,⟨some 18,none,.ia 8 64 (.t 17) (.t 16)⟩,⟨some 19,none,.ld (some 64) (.t 18)⟩,⟨some 20,none,.call 70 [(.t 14),(.t 15),(.t 19)]⟩,⟨some 21,none,.ld (some 1106) (.t 2)⟩,⟨some 22,none,.fa 1 (.t 2)⟩,⟨some 23,none,.ld none (.t 22)⟩,⟨some 24,none,.mov (.t 5)⟩,⟨some 25,none,.fa 530 (.t 2)⟩,⟨some 26,none,.ia 8 64 (.t 25) (.t 24)⟩,⟨some 27,none,.ld (some 64) (.t 26)⟩,⟨some 28,none,.call 71 [(.t 23),(.t 27)]⟩,⟨some 29,none,.ld (some 64) (.t 3)⟩,⟨some 30,none,.call 70 [(.t 21),(.t 28),(.t 29)]⟩,⟨some 31,none,.eqa true 64 (.t 20) (.t 30)⟩]) (.cond (.t 31) (.seq (.reg [⟨some 4,none,.mov (.c (.int .i64 1))⟩]) .ret) .skip))) (.reg [⟨some 12,none,.mov (.t 5)⟩,⟨some 13,none,.bin .add (.t 12) (.c (.int .i64 1))⟩,⟨some 5,none,.mov (.t 13)⟩])))))) (.seq (.reg [⟨some 32,none,.ld (some 1106) (.t 2)⟩,⟨some 33,none,.ld (some 64) (.t 3)⟩,⟨some 34,none,.call 72 [(.t 32),(.t 33),(.c (.int .i64 0)),(.c (.int .i64 2))]⟩,⟨some 6,none,.new 33 [(512,(.int .u8 0))]⟩,⟨none,none,.st 512 (.t 6) (.t 34)⟩]) (.seq (.block 2 (.seq (.drwo true [8] [0,1,3,4,5,6,2,7,8,9,10] [⟨some 36,none,.ld (some 1106) (.t 2)⟩,⟨some 37,none,.ld (some 64) (.t 3)⟩,⟨some 38,none,.call 73 [(.t 36),(.t 37)]⟩,⟨some 39,none,.ld (some 1106) (.t 2)⟩,⟨some 40,none,.ld (some 512) (.t 6)⟩,⟨some 41,none,.ld (some 1106) (.t 2)⟩,⟨some 42,none,.ld (some 64) (.t 3)⟩,⟨some 43,none,.call 72 [(.t 41),(.t 42),(.c (.int .i64 1)),(.c (.int .i64 2))]⟩,⟨some 44,none,.call 74 [(.t 39),(.t 40),(.t 43)]⟩,⟨some 45,none,.eqa true 512 (.t 38) (.t 44)⟩,⟨some 35,none,.mov (.t 45)⟩]) (.cond (.t 35) (.seq (.reg [⟨some 4,none,.mov (.c (.int .i64 2))⟩]) .ret) (.seq (.drwo true [8] [0,1,3,4,5,6,2,7,8,9,10] [⟨some 47,none,.ld (some 1106) (.t 2)⟩,⟨some 48,none,.ld (some 64) (.t 3)⟩,⟨some 49,none,.call 75 [(.t 47),(.t 48)]⟩,⟨some 50,none,.ld (some 1106) (.t 2)⟩,⟨some 51,none,.ld (some 512) (.t 6)⟩,⟨some 52,none,.ld (some 1106) (.t 2)⟩,⟨some 53,none,.ld (some 64) (.t 3)⟩,⟨some 54,none,.call 72 [(.t 52),(.t 53),(.c (.int .i64 0)),(.c (.int .i64 1))]⟩,⟨some 55,none,.call 74 [(.t 50),(.t 51),(.t 54)]⟩,⟨some 56,none,.eqa true 512 (.t 49) (.t 55)⟩,⟨some 46,none,.mov (.t 56)⟩]) (.cond (.t 46) (.seq (.reg [⟨some 4,none,.mov (.c (.int .i64 3))⟩]) .ret) .skip))))) (.seq (.reg [⟨some 57,none,.ld (some 1106) (.t 2)⟩,⟨some 58,none,.ld (some 64) (.t 3)⟩,⟨some 59,none,.call 21 [(.t 57),(.t 58)]⟩,⟨some 7,none,.new 29 [(64,(.int .u8 0))]⟩,⟨none,none,.st 64 (.t 7) (.t 59)⟩]) (.seq (.seq (.drw true [13] [⟨some 60,none,.ld (some 1106) (.t 2)⟩,⟨some 61,none,.ld (some 64) (.t 3)⟩,⟨some 62,none,.ld (some 64) (.t 7)⟩,⟨some 63,none,.call 70 [(.t 60),(.t 61),(.t 62)]⟩,⟨some 64,none,.ld (some 1106) (.t 2)⟩,⟨some 65,none,.call 76 [(.t 64)]⟩,⟨some 66,none,.eqa true 64 (.t 63) (.t 65)⟩,⟨some 67,none,.mov (.t 66)⟩,⟨some 68,(some (67,false)),.ld (some 1106) (.t 2)⟩,⟨some 69,(some (67,false)),.ld (some 64) (.t 7)⟩,⟨some 70,(some (67,false)),.ld (some 64) (.t 3)⟩,⟨some 71,(some (67,false)),.call 70 [(.t 68),(.t 69),(.t 70)]⟩,⟨some 72,(some (67,false)),.ld (some 1106) (.t 2)⟩,⟨some 73,(some (67,false)),.call 76 [(.t 72)]⟩,⟨some 74,(some (67,false)),.eqa true 64 (.t 71) (.t 73)⟩,⟨some 75,none,.pick (.t 67) (.c (.bool true)) (.t 74)⟩]) (.cond (.t 75) (.seq (.reg [⟨some 4,none,.mov (.c (.int .i64 4))⟩]) .ret) .skip)) (.seq (.reg [⟨some 4,none,.mov (.c (.int .i64 0))⟩]) .ret)))))))
set_option maxRecDepth 100000 in
theorem tr46 : trFn Tryz.prog Tryz.f46 = some (76, ir46, [.tmp 4]) := by kernel_rfl
theorem spec_l09Fails (h : HT) (s : Nat → Int) (K : Nat → SV) (H : Hp) (n : Nat) (hS : HS h h.N) (hH : isHopf h) (hK : h.At K) (hB : h.By) (hs : isBy 64 s) (hz : lz h.N s) :
    FnS Tryz.prog 46 [.arr 1106 K, .arr 64 (bys s)] H n (fun r H' _ => r = i64 (cnd h h.N s) ∧ H' = H) := by
  have hp := hS.hp
  have ha := hS.ha
  have hk0 := hK.p
  have hk1 := hK.n
  rw [hS.hn] at hk1
  have hk6 := hK.c
  have hun := hH.un
  obtain ⟨a, hea⟩ : ∃ a, a = h.N := ⟨_, rfl⟩
  rw [← hea] at hS ha hk1 hz hun ⊢
  refine FnS.of_body Tryz.func46 tr46 (by simp) (fun hf => ?_)
  dsimp only [argEnv]
  unfold ir46
  (repeat first|refine zG ?_|(refine LS.nilO ?_;intro nq hnq hltq;try refine zU ?_)|(refine MS.new ?_;intro bq hbq hbqf;try refine zU ?_)|(refine MS.nil ?_;intro nq hnq hltq;have hlq:=hltq _ _ (Hp.get_eq _ _ _);clear hltq;try refine zU ?_)|(refine LS.nilQ ?_;try with_reducible intro nq hnq;try refine zU ?_))
  refine CS.iter a (fun i => [(5, i64 i), (4, i64 0), (2, ptr n 0), (3, ptr (n + 1) 0)]) (fun _ => (n + 1, ⟨64, bys s, 29⟩) :: (n, ⟨1106, K, 35⟩) :: H)
    (fun i => Bx (∀ i' : Nat, i' < i → ∀ q, q < 64 → ten h.p h.m s (fun q => h.c (64 * i' + q)) q = ten h.p h.m (trn (fun q => h.c (64 * i' + q))) s q)) (by (repeat first | exact trivial | refine And.intro rfl ?_)) (by exact zD) ⟨fun _ h => by omega⟩ ?_
  intro i n1 hi hn hJ
  (repeat first|refine zG ?_|(refine LS.nilO ?_;intro nq hnq hltq;try refine zU ?_)|(refine MS.new ?_;intro bq hbq hbqf;try refine zU ?_)|(refine MS.nil ?_;intro nq hnq hltq;have hlq:=hltq _ _ (Hp.get_eq _ _ _);clear hltq;try refine zU ?_)|(refine LS.nilQ ?_;try with_reducible intro nq hnq;try refine zU ?_))
  refine zI ?_ ?_<;>intro h2
  · have hr := hB.rowc (i := i) (by omega)
    have hr2 : isBy 64 (trn (fun q => h.c (64 * i + q))) := fun q hq => hr _ (by omega)
    obtain ⟨x1, hx1⟩ : ∃ x, x = ten h.p h.m s (fun q => h.c (64 * i + q)) := ⟨_, rfl⟩
    obtain ⟨x2, hx2⟩ : ∃ x, x = ten h.p h.m (trn (fun q => h.c (64 * i + q))) s := ⟨_, rfl⟩
    have hrc : ∀ q, q < 64 → K (530 + 64 * i + q) = .int .u8 (h.c (64 * i + q)) := fun q hq => by rw [Nat.add_assoc]; exact hk6 _ (by omega)
    (repeat first|refine zG ?_|(refine LS.nilO ?_;intro nq hnq hltq;try refine zU ?_)|(refine MS.new ?_;intro bq hbq hbqf;try refine zU ?_)|(refine MS.nil ?_;intro nq hnq hltq;have hlq:=hltq _ _ (Hp.get_eq _ _ _);clear hltq;try refine zU ?_)|(refine LS.nilQ ?_;try with_reducible intro nq hnq;try refine zU ?_))
    refine CS.quietLo ?_
    (repeat first|refine zG ?_|(refine LS.nilO ?_;intro nq hnq hltq;try refine zU ?_)|(refine MS.new ?_;intro bq hbq hbqf;try refine zU ?_)|(refine MS.nil ?_;intro nq hnq hltq;have hlq:=hltq _ _ (Hp.get_eq _ _ _);clear hltq;try refine zU ?_)|(refine LS.nilQ ?_;try with_reducible intro nq hnq;try refine zU ?_))
    refine LS.callQ (.arr 64 (bys x1)) rfl (fun n' hn' => by rw [hx1]; exact FnS.args (concs_cons (conc_arr (fun q hq => rfl)) rfl) (spec_l03Pairs h a s (fun q => h.c (64 * i + q)) K _ _ hS hK hB hs hr)) ?_
    (repeat first|refine zG ?_|(refine LS.nilO ?_;intro nq hnq hltq;try refine zU ?_)|(refine MS.new ?_;intro bq hbq hbqf;try refine zU ?_)|(refine MS.nil ?_;intro nq hnq hltq;have hlq:=hltq _ _ (Hp.get_eq _ _ _);clear hltq;try refine zU ?_)|(refine LS.nilQ ?_;try with_reducible intro nq hnq;try refine zU ?_))
    refine LS.callQ (.arr 64 (bys (trn (fun q => h.c (64 * i + q))))) rfl (fun n' hn' => spec_l09Flip a (fun q => h.c (64 * i + q)) _ _ ha (hS.cm.row (by omega))) ?_
    (repeat first|refine zG ?_|(refine LS.nilO ?_;intro nq hnq hltq;try refine zU ?_)|(refine MS.new ?_;intro bq hbq hbqf;try refine zU ?_)|(refine MS.nil ?_;intro nq hnq hltq;have hlq:=hltq _ _ (Hp.get_eq _ _ _);clear hltq;try refine zU ?_)|(refine LS.nilQ ?_;try with_reducible intro nq hnq;try refine zU ?_))
    refine LS.callQ (.arr 64 (bys x2)) rfl (fun n' hn' => by rw [hx2]; exact FnS.args (concs_cons (conc_arr (fun q hq => rfl)) rfl) (spec_l03Pairs h a (trn (fun q => h.c (64 * i + q))) s K _ _ hS hK hB hr2 hs)) ?_
    (repeat first|refine zG ?_|(refine LS.nilO ?_;intro nq hnq hltq;try refine zU ?_)|(refine MS.new ?_;intro bq hbq hbqf;try refine zU ?_)|(refine MS.nil ?_;intro nq hnq hltq;have hlq:=hltq _ _ (Hp.get_eq _ _ _);clear hltq;try refine zU ?_)|(refine LS.nilQ ?_;try with_reducible intro nq hnq;try refine zU ?_))
    refine zI ?_ ?_<;>intro h4
    · (repeat first|refine zG ?_|(refine LS.nilO ?_;intro nq hnq hltq;try refine zU ?_)|(refine MS.new ?_;intro bq hbq hbqf;try refine zU ?_)|(refine MS.nil ?_;intro nq hnq hltq;have hlq:=hltq _ _ (Hp.get_eq _ _ _);clear hltq;try refine zU ?_)|(refine LS.nilQ ?_;try with_reducible intro nq hnq;try refine zU ?_))
      exact ⟨_, H, rfl, by exact zD, by rw [cnd_1 (fun q => h4 (by rw [hx1, hx2]; exact q i (by omega)))], rfl⟩
    · (repeat first|refine zG ?_|(refine LS.nilO ?_;intro nq hnq hltq;try refine zU ?_)|(refine MS.new ?_;intro bq hbq hbqf;try refine zU ?_)|(refine MS.nil ?_;intro nq hnq hltq;have hlq:=hltq _ _ (Hp.get_eq _ _ _);clear hltq;try refine zU ?_)|(refine LS.nilQ ?_;try with_reducible intro nq hnq;try refine zU ?_))
      refine ⟨by omega, by (repeat first | exact trivial | refine And.intro rfl ?_), by exact zD, ⟨fun i' hi' => ?_⟩⟩
      by_cases e : i' = i
      · subst e; rw [← hx1, ← hx2]; exact h4
      · exact hJ.1 i' (by omega)
  have : i = a := by omega
  subst this
  have g1 : tur h i s := hJ.1
  (repeat first|refine zG ?_|(refine LS.nilO ?_;intro nq hnq hltq;try refine zU ?_)|(refine MS.new ?_;intro bq hbq hbqf;try refine zU ?_)|(refine MS.nil ?_;intro nq hnq hltq;have hlq:=hltq _ _ (Hp.get_eq _ _ _);clear hltq;try refine zU ?_)|(refine LS.nilQ ?_;try with_reducible intro nq hnq;try refine zU ?_))
  obtain ⟨y0, hy0⟩ : ∃ x, x = p02 h.p h.u s := ⟨_, rfl⟩
  have b0 : isBy 512 y0 := by rw [hy0]; exact p02_by hp _ _
  refine RS.call rfl ((FnS.args (concs_cons (conc_arr (fun q hq => rfl)) rfl) (spec_p02 h i s K _ _ hS hK hB hs hz)).mono ?_)
  rw [← hy0]
  rintro r H' n2 hn2 ⟨rfl, rfl⟩
  (repeat first|refine zG ?_|(refine LS.nilO ?_;intro nq hnq hltq;try refine zU ?_)|(refine MS.new ?_;intro bq hbq hbqf;try refine zU ?_)|(refine MS.nil ?_;intro nq hnq hltq;have hlq:=hltq _ _ (Hp.get_eq _ _ _);clear hltq;try refine zU ?_)|(refine LS.nilQ ?_;try with_reducible intro nq hnq;try refine zU ?_))
  obtain ⟨y1, hy1⟩ : ∃ x, x = p12 h.p h.u s := ⟨_, rfl⟩
  have b1 : isBy 512 y1 := by rw [hy1]; exact p12_by hp _ _
  obtain ⟨x1, hx1⟩ : ∃ x, x = fpt h.p h.c s i := ⟨_, rfl⟩
  obtain ⟨x2, hx2⟩ : ∃ x, x = big h.p h.m y0 y1 := ⟨_, rfl⟩
  have e2 : ∀ q, q < 512 → x2 q = r23 h.p h.m s q := fun q hq => by rw [hx2, hy0, hy1]; exact big_23 hun hz hq
  refine CS.quietLo ?_
  (repeat first|refine zG ?_|(refine LS.nilO ?_;intro nq hnq hltq;try refine zU ?_)|(refine MS.new ?_;intro bq hbq hbqf;try refine zU ?_)|(refine MS.nil ?_;intro nq hnq hltq;have hlq:=hltq _ _ (Hp.get_eq _ _ _);clear hltq;try refine zU ?_)|(refine LS.nilQ ?_;try with_reducible intro nq hnq;try refine zU ?_))
  refine LS.callQ (.arr 512 (bys x1)) rfl (fun n' hn' => by rw [hx1]; exact FnS.args (concs_cons (conc_arr (fun q hq => rfl)) rfl) (spec_l09First h i s K _ _ hS hK hB hs)) ?_
  (repeat first|refine zG ?_|(refine LS.nilO ?_;intro nq hnq hltq;try refine zU ?_)|(refine MS.new ?_;intro bq hbq hbqf;try refine zU ?_)|(refine MS.nil ?_;intro nq hnq hltq;have hlq:=hltq _ _ (Hp.get_eq _ _ _);clear hltq;try refine zU ?_)|(refine LS.nilQ ?_;try with_reducible intro nq hnq;try refine zU ?_))
  refine LS.callQ (.arr 512 (bys y1)) rfl (fun n' hn' => by rw [hy1]; exact FnS.args (concs_cons (conc_arr (fun q hq => rfl)) rfl) (spec_p12 h i s K _ _ hS hK hB hs hz)) ?_
  (repeat first|refine zG ?_|(refine LS.nilO ?_;intro nq hnq hltq;try refine zU ?_)|(refine MS.new ?_;intro bq hbq hbqf;try refine zU ?_)|(refine MS.nil ?_;intro nq hnq hltq;have hlq:=hltq _ _ (Hp.get_eq _ _ _);clear hltq;try refine zU ?_)|(refine LS.nilQ ?_;try with_reducible intro nq hnq;try refine zU ?_))
  refine LS.callQ (.arr 512 (bys x2)) rfl (fun n' hn' => by rw [hx2]; exact FnS.args (concs_cons (conc_arr (fun q hq => rfl)) rfl) (spec_l09Product h i y0 y1 K _ _ hS hK hB b0 b1)) ?_
  (repeat first|refine zG ?_|(refine LS.nilO ?_;intro nq hnq hltq;try refine zU ?_)|(refine MS.new ?_;intro bq hbq hbqf;try refine zU ?_)|(refine MS.nil ?_;intro nq hnq hltq;have hlq:=hltq _ _ (Hp.get_eq _ _ _);clear hltq;try refine zU ?_)|(refine LS.nilQ ?_;try with_reducible intro nq hnq;try refine zU ?_))
  refine zI ?_ ?_<;>intro h2
  · (repeat first|refine zG ?_|(refine LS.nilO ?_;intro nq hnq hltq;try refine zU ?_)|(refine MS.new ?_;intro bq hbq hbqf;try refine zU ?_)|(refine MS.nil ?_;intro nq hnq hltq;have hlq:=hltq _ _ (Hp.get_eq _ _ _);clear hltq;try refine zU ?_)|(refine LS.nilQ ?_;try with_reducible intro nq hnq;try refine zU ?_))
    exact ⟨_, H, rfl, by exact zD, by rw [cnd_2 g1 (fun q => h2 (fun z hz => by rw [e2 z hz, hx1]; exact q z hz))], rfl⟩
  have g2 : cn2 h i s := fun q hq => by rw [← hx1, h2 q hq]; exact e2 q hq
  (repeat first|refine zG ?_|(refine LS.nilO ?_;intro nq hnq hltq;try refine zU ?_)|(refine MS.new ?_;intro bq hbq hbqf;try refine zU ?_)|(refine MS.nil ?_;intro nq hnq hltq;have hlq:=hltq _ _ (Hp.get_eq _ _ _);clear hltq;try refine zU ?_)|(refine LS.nilQ ?_;try with_reducible intro nq hnq;try refine zU ?_))
  obtain ⟨y2, hy2⟩ : ∃ x, x = p01 h.p h.u s := ⟨_, rfl⟩
  have b2 : isBy 512 y2 := by rw [hy2]; exact p01_by hp _ _
  obtain ⟨x3, hx3⟩ : ∃ x, x = snd h.p h.c s := ⟨_, rfl⟩
  obtain ⟨x4, hx4⟩ : ∃ x, x = big h.p h.m y0 y2 := ⟨_, rfl⟩
  have e4 : ∀ q, q < 512 → x4 q = r12 h.p h.m s q := fun q hq => by rw [hx4, hy0, hy2]; exact big_12 hun hz hq
  refine CS.quietLo ?_
  (repeat first|refine zG ?_|(refine LS.nilO ?_;intro nq hnq hltq;try refine zU ?_)|(refine MS.new ?_;intro bq hbq hbqf;try refine zU ?_)|(refine MS.nil ?_;intro nq hnq hltq;have hlq:=hltq _ _ (Hp.get_eq _ _ _);clear hltq;try refine zU ?_)|(refine LS.nilQ ?_;try with_reducible intro nq hnq;try refine zU ?_))
  refine LS.callQ (.arr 512 (bys x3)) rfl (fun n' hn' => by rw [hx3]; exact FnS.args (concs_cons (conc_arr (fun q hq => rfl)) rfl) (spec_l09Second h i s K _ _ hS hK hB hs hz)) ?_
  (repeat first|refine zG ?_|(refine LS.nilO ?_;intro nq hnq hltq;try refine zU ?_)|(refine MS.new ?_;intro bq hbq hbqf;try refine zU ?_)|(refine MS.nil ?_;intro nq hnq hltq;have hlq:=hltq _ _ (Hp.get_eq _ _ _);clear hltq;try refine zU ?_)|(refine LS.nilQ ?_;try with_reducible intro nq hnq;try refine zU ?_))
  refine LS.callQ (.arr 512 (bys y2)) rfl (fun n' hn' => by rw [hy2]; exact FnS.args (concs_cons (conc_arr (fun q hq => rfl)) rfl) (spec_p01 h i s K _ _ hS hK hB hs hz)) ?_
  (repeat first|refine zG ?_|(refine LS.nilO ?_;intro nq hnq hltq;try refine zU ?_)|(refine MS.new ?_;intro bq hbq hbqf;try refine zU ?_)|(refine MS.nil ?_;intro nq hnq hltq;have hlq:=hltq _ _ (Hp.get_eq _ _ _);clear hltq;try refine zU ?_)|(refine LS.nilQ ?_;try with_reducible intro nq hnq;try refine zU ?_))
  refine LS.callQ (.arr 512 (bys x4)) rfl (fun n' hn' => by rw [hx4]; exact FnS.args (concs_cons (conc_arr (fun q hq => rfl)) rfl) (spec_l09Product h i y0 y2 K _ _ hS hK hB b0 b2)) ?_
  (repeat first|refine zG ?_|(refine LS.nilO ?_;intro nq hnq hltq;try refine zU ?_)|(refine MS.new ?_;intro bq hbq hbqf;try refine zU ?_)|(refine MS.nil ?_;intro nq hnq hltq;have hlq:=hltq _ _ (Hp.get_eq _ _ _);clear hltq;try refine zU ?_)|(refine LS.nilQ ?_;try with_reducible intro nq hnq;try refine zU ?_))
  refine zI ?_ ?_<;>intro h3
  · (repeat first|refine zG ?_|(refine LS.nilO ?_;intro nq hnq hltq;try refine zU ?_)|(refine MS.new ?_;intro bq hbq hbqf;try refine zU ?_)|(refine MS.nil ?_;intro nq hnq hltq;have hlq:=hltq _ _ (Hp.get_eq _ _ _);clear hltq;try refine zU ?_)|(refine LS.nilQ ?_;try with_reducible intro nq hnq;try refine zU ?_))
    exact ⟨_, H, rfl, by exact zD, by rw [cnd_3 g1 g2 (fun q => h3 (fun z hz => by rw [e4 z hz, hx3]; exact q z hz))], rfl⟩
  have g3 : cn3 h s := fun q hq => by rw [← hx3, h3 q hq]; exact e4 q hq
  (repeat first|refine zG ?_|(refine LS.nilO ?_;intro nq hnq hltq;try refine zU ?_)|(refine MS.new ?_;intro bq hbq hbqf;try refine zU ?_)|(refine MS.nil ?_;intro nq hnq hltq;have hlq:=hltq _ _ (Hp.get_eq _ _ _);clear hltq;try refine zU ?_)|(refine LS.nilQ ?_;try with_reducible intro nq hnq;try refine zU ?_))
  obtain ⟨x0, hx0⟩ : ∃ x, x = und h.p h.s s i := ⟨_, rfl⟩
  have hby : isBy 64 x0 := by rw [hx0]; exact (und_res hp.1 _ _ _ 64).by hp.2
  refine RS.call rfl ((FnS.args (concs_cons (conc_arr (fun q hq => rfl)) rfl) (spec_l09Back h i s K _ _ hS hK hB hs)).mono ?_)
  rw [← hx0]
  rintro r H' n3 hn3 ⟨rfl, rfl⟩
  (repeat first|refine zG ?_|(refine LS.nilO ?_;intro nq hnq hltq;try refine zU ?_)|(refine MS.new ?_;intro bq hbq hbqf;try refine zU ?_)|(refine MS.nil ?_;intro nq hnq hltq;have hlq:=hltq _ _ (Hp.get_eq _ _ _);clear hltq;try refine zU ?_)|(refine LS.nilQ ?_;try with_reducible intro nq hnq;try refine zU ?_))
  obtain ⟨x5, hx5⟩ : ∃ x, x = ten h.p h.m s x0 := ⟨_, rfl⟩
  obtain ⟨x6, hx6⟩ : ∃ x, x = ten h.p h.m x0 s := ⟨_, rfl⟩
  obtain ⟨x7, hx7⟩ : ∃ x, x = outer h.p h.u h.u := ⟨_, rfl⟩
  refine LS.callQ (.arr 64 (bys x5)) rfl (fun n' hn' => by rw [hx5]; exact FnS.args (concs_cons (conc_arr (fun q hq => rfl)) rfl) (spec_l03Pairs h i s x0 K _ _ hS hK hB hs hby)) ?_
  (repeat first|refine zG ?_|(refine LS.nilO ?_;intro nq hnq hltq;try refine zU ?_)|(refine MS.new ?_;intro bq hbq hbqf;try refine zU ?_)|(refine MS.nil ?_;intro nq hnq hltq;have hlq:=hltq _ _ (Hp.get_eq _ _ _);clear hltq;try refine zU ?_)|(refine LS.nilQ ?_;try with_reducible intro nq hnq;try refine zU ?_))
  refine LS.callQ (.arr 64 (bys x7)) rfl (fun n' hn' => by rw [hx7]; exact FnS.args (concs_cons (conc_arr (fun q hq => rfl)) rfl) (spec_l09One h i K _ _ hS hK hB)) ?_
  (repeat first|refine zG ?_|(refine LS.nilO ?_;intro nq hnq hltq;try refine zU ?_)|(refine MS.new ?_;intro bq hbq hbqf;try refine zU ?_)|(refine MS.nil ?_;intro nq hnq hltq;have hlq:=hltq _ _ (Hp.get_eq _ _ _);clear hltq;try refine zU ?_)|(refine LS.nilQ ?_;try with_reducible intro nq hnq;try refine zU ?_))
  refine RS.sp (t := 67) rfl (fun h4 => ?_) (fun h4 => ?_) <;> (try simp only [tb_eq, tb_eqF, decide_eq_true_eq, decide_eq_false_iff_not, beq_iff_eq, bne_iff_ne, ne_eq, Decidable.not_not, beq_eq_false_iff_ne, bne_eq_false_iff_eq, Bool.not_eq_true', Bool.not_eq_false', Bool.not_eq_eq_eq_not, Bool.not_true, Bool.not_false] at h4)
  · (repeat first|refine zG ?_|(refine LS.nilO ?_;intro nq hnq hltq;try refine zU ?_)|(refine MS.new ?_;intro bq hbq hbqf;try refine zU ?_)|(refine MS.nil ?_;intro nq hnq hltq;have hlq:=hltq _ _ (Hp.get_eq _ _ _);clear hltq;try refine zU ?_)|(refine LS.nilQ ?_;try with_reducible intro nq hnq;try refine zU ?_))
    exact ⟨_, H, rfl, by exact zD, by rw [cnd_4 g1 g2 g3 (fun q => h4 (by rw [hx5, hx7, hx0]; exact q.1))], rfl⟩
  · (repeat first|refine zG ?_|(refine LS.nilO ?_;intro nq hnq hltq;try refine zU ?_)|(refine MS.new ?_;intro bq hbq hbqf;try refine zU ?_)|(refine MS.nil ?_;intro nq hnq hltq;have hlq:=hltq _ _ (Hp.get_eq _ _ _);clear hltq;try refine zU ?_)|(refine LS.nilQ ?_;try with_reducible intro nq hnq;try refine zU ?_))
    refine LS.callQ (.arr 64 (bys x6)) rfl (fun n' hn' => by rw [hx6]; exact FnS.args (concs_cons (conc_arr (fun q hq => rfl)) rfl) (spec_l03Pairs h i x0 s K _ _ hS hK hB hby hs)) ?_
    (repeat first|refine zG ?_|(refine LS.nilO ?_;intro nq hnq hltq;try refine zU ?_)|(refine MS.new ?_;intro bq hbq hbqf;try refine zU ?_)|(refine MS.nil ?_;intro nq hnq hltq;have hlq:=hltq _ _ (Hp.get_eq _ _ _);clear hltq;try refine zU ?_)|(refine LS.nilQ ?_;try with_reducible intro nq hnq;try refine zU ?_))
    refine RS.call rfl ((FnS.args (concs_cons (conc_arr (fun q hq => rfl)) rfl) (spec_l09One h i K _ _ hS hK hB)).mono ?_)
    rw [← hx7]
    rintro r H' n4 hn4 ⟨rfl, rfl⟩
    (repeat first|refine zG ?_|(refine LS.nilO ?_;intro nq hnq hltq;try refine zU ?_)|(refine MS.new ?_;intro bq hbq hbqf;try refine zU ?_)|(refine MS.nil ?_;intro nq hnq hltq;have hlq:=hltq _ _ (Hp.get_eq _ _ _);clear hltq;try refine zU ?_)|(refine LS.nilQ ?_;try with_reducible intro nq hnq;try refine zU ?_))
    refine zI ?_ ?_<;>intro h5
    · (repeat first|refine zG ?_|(refine LS.nilO ?_;intro nq hnq hltq;try refine zU ?_)|(refine MS.new ?_;intro bq hbq hbqf;try refine zU ?_)|(refine MS.nil ?_;intro nq hnq hltq;have hlq:=hltq _ _ (Hp.get_eq _ _ _);clear hltq;try refine zU ?_)|(refine LS.nilQ ?_;try with_reducible intro nq hnq;try refine zU ?_))
      exact ⟨_, H, rfl, by exact zD, by rw [cnd_4 g1 g2 g3 (fun q => h5 (by rw [hx6, hx7, hx0]; exact q.2))], rfl⟩
    · (repeat first|refine zG ?_|(refine LS.nilO ?_;intro nq hnq hltq;try refine zU ?_)|(refine MS.new ?_;intro bq hbq hbqf;try refine zU ?_)|(refine MS.nil ?_;intro nq hnq hltq;have hlq:=hltq _ _ (Hp.get_eq _ _ _);clear hltq;try refine zU ?_)|(refine LS.nilQ ?_;try with_reducible intro nq hnq;try refine zU ?_))
      exact ⟨_, H, rfl, by exact zD, by rw [cnd_0 g1 g2 g3 ⟨by rw [← hx0, ← hx5, ← hx7]; exact h4, by rw [← hx0, ← hx6, ← hx7]; exact h5⟩], rfl⟩
end Go.Proofs.YtbknndbfbebkdabGreatR
