/- Contracts of the program's functions. -/
import Derived.Test.YtbknndbfbebkdabGreatRR
import Derived.Test.YtbknndbfbebkdabGreatRLW
import Derived.Test.YtbknndbfbebkdabGreatRF0b
import Derived.Test.YtbknndbfbebkdabGreatRF0c
namespace Go.Proofs.YtbknndbfbebkdabGreatR
open Go.V
set_option linter.unusedSimpArgs false
set_option linter.unusedVariables false
set_option maxHeartbeats 4000000
/-- impl.IsVector -/
def ir88 : Cd := (.seq (.reg [⟨some 5,none,.box 27 (.t 2)⟩,⟨some 6,none,.mov (.c (.bool false))⟩]) (.seq (.seq (.reg [⟨some 9,none,.mov (.t 0)⟩,⟨some 10,none,.call 114 [(.t 9)]⟩,⟨some 11,none,.un .not (.t 10)⟩,⟨some 12,none,.mov (.t 11)⟩,⟨some 13,(some (12,false)),.mov (.t 1)⟩,⟨some 14,(some (12,false)),.call 115 [(.t 13),(.c (.int .i64 1)),(.c (.int .i64 8))]⟩,⟨some 15,(some (12,false)),.un .not (.t 14)⟩,⟨some 16,none,.pick (.t 12) (.c (.bool true)) (.t 15)⟩]) (.cond (.t 16) (.seq (.reg [⟨some 6,none,.mov (.c (.bool false))⟩]) .ret) .skip)) (.seq (.seq (.reg [⟨some 17,none,.ld (some 8) (.t 5)⟩,⟨some 18,none,.mov (.c (.int .i64 0))⟩]) (.block 0 (.loop (.seq (.reg [⟨some 19,none,.bin .lss (.t 18) (.c (.int .i64 8))⟩]) (.seq (.cond (.t 19) .skip (.exit 0)) (.seq (.block 1 (.seq (.reg [⟨some 20,none,.mov (.t 18)⟩,⟨some 21,none,.ix 8 1 none (.t 17) (.t 18)⟩,⟨some 7,none,.mov (.t 20)⟩,⟨some 8,none,.mov (.t 21)⟩]) (.seq (.reg [⟨some 22,none,.mov (.t 8)⟩,⟨some 23,none,.cv .i64 (.t 22)⟩,⟨some 24,none,.mov (.t 0)⟩,⟨some 25,none,.bin .geq (.t 23) (.t 24)⟩,⟨some 26,none,.mov (.t 25)⟩,⟨some 27,(some (26,false)),.mov (.t 7)⟩,⟨some 28,(some (26,false)),.mov (.t 1)⟩,⟨some 29,(some (26,false)),.bin .geq (.t 27) (.t 28)⟩,⟨some 30,(some (26,false)),.mov (.t 29)⟩,⟨some 31,(some (30,true)),.mov (.t 8)⟩,⟨some 32,(some (30,true)),.bin .neq (.t 31) (.c (.int .u8 0))⟩,⟨some 33,(some (26,false)),.pick (.t 30) (.t 32) (.c (.bool false))⟩,⟨some 34,none,.pick (.t 26) (.c (.bool true)) (.t 33)⟩]) (.cond (.t 34) (.seq (.reg [⟨some 6,none,.mov (.c (.bool false))⟩]) .ret) .skip)))) (.reg [⟨some 35,none,.bin .add (.t 18) (.c (.int .i64 1))⟩,⟨some 18,none,.mov (.t 35)⟩]))))))) (.seq (.reg [⟨some 6,none,.mov (.c (.bool true))⟩]) .ret))))
set_option maxRecDepth 100000 in
theorem tr88 : trFn Tryz.prog Tryz.f88 = some (36, ir88, [.tmp 6]) := by kernel_rfl
theorem impl_IsVector (p n' : Int) (v : Nat → Int) (H : Hp) (n : Nat) (hv : isBy 8 v) :
    FnS Tryz.prog 88 [i64 p, i64 n', .arr 8 (bys v)] H n (fun r H' _ => r = bl (tb (sz p n' ∧ isVec p n' v)) ∧ H' = H) := by
  refine FnS.of_body Tryz.func88 tr88 (by simp) (fun hf => ?_)
  dsimp only [argEnv]
  unfold ir88
  (repeat first|refine zG ?_|(refine LS.nilO ?_;intro nq hnq hltq;try refine zU ?_)|(refine MS.new ?_;intro bq hbq hbqf;try refine zU ?_)|(refine MS.nil ?_;intro nq hnq hltq;have hlq:=hltq _ _ (Hp.get_eq _ _ _);clear hltq;try refine zU ?_)|(refine LS.nilQ ?_;try with_reducible intro nq hnq;try refine zU ?_))
  refine RS.call rfl ((impl_IsPrime _ _ _).mono ?_)
  rintro r H' n2 hn2 ⟨rfl, rfl⟩
  (repeat first|refine zG ?_|(refine LS.nilO ?_;intro nq hnq hltq;try refine zU ?_)|(refine MS.new ?_;intro bq hbq hbqf;try refine zU ?_)|(refine MS.nil ?_;intro nq hnq hltq;have hlq:=hltq _ _ (Hp.get_eq _ _ _);clear hltq;try refine zU ?_)|(refine LS.nilQ ?_;try with_reducible intro nq hnq;try refine zU ?_))
  refine RS.sp (t := 12) rfl (fun h1 => ?_) (fun h1 => ?_) <;> (try simp only [tb_eq, tb_eqF, decide_eq_true_eq, decide_eq_false_iff_not, beq_iff_eq, bne_iff_ne, ne_eq, Decidable.not_not, beq_eq_false_iff_ne, bne_eq_false_iff_eq, Bool.not_eq_true', Bool.not_eq_false', Bool.not_eq_eq_eq_not, Bool.not_true, Bool.not_false] at h1)
  · (repeat first|refine zG ?_|(refine LS.nilO ?_;intro nq hnq hltq;try refine zU ?_)|(refine MS.new ?_;intro bq hbq hbqf;try refine zU ?_)|(refine MS.nil ?_;intro nq hnq hltq;have hlq:=hltq _ _ (Hp.get_eq _ _ _);clear hltq;try refine zU ?_)|(refine LS.nilQ ?_;try with_reducible intro nq hnq;try refine zU ?_))
    exact ⟨_, H, rfl, by exact zD, by rw [tb_false (fun h => by simp [h.1.1] at h1)], rfl⟩
  · (repeat first|refine zG ?_|(refine LS.nilO ?_;intro nq hnq hltq;try refine zU ?_)|(refine MS.new ?_;intro bq hbq hbqf;try refine zU ?_)|(refine MS.nil ?_;intro nq hnq hltq;have hlq:=hltq _ _ (Hp.get_eq _ _ _);clear hltq;try refine zU ?_)|(refine LS.nilQ ?_;try with_reducible intro nq hnq;try refine zU ?_))
    refine RS.call rfl ((impl_in _ _ _ _ _).mono ?_)
    rintro r H' n3 hn3 ⟨rfl, rfl⟩
    (repeat first|refine zG ?_|(refine LS.nilO ?_;intro nq hnq hltq;try refine zU ?_)|(refine MS.new ?_;intro bq hbq hbqf;try refine zU ?_)|(refine MS.nil ?_;intro nq hnq hltq;have hlq:=hltq _ _ (Hp.get_eq _ _ _);clear hltq;try refine zU ?_)|(refine LS.nilQ ?_;try with_reducible intro nq hnq;try refine zU ?_))
    refine zI ?_ ?_<;>intro h2
    · (repeat first|refine zG ?_|(refine LS.nilO ?_;intro nq hnq hltq;try refine zU ?_)|(refine MS.new ?_;intro bq hbq hbqf;try refine zU ?_)|(refine MS.nil ?_;intro nq hnq hltq;have hlq:=hltq _ _ (Hp.get_eq _ _ _);clear hltq;try refine zU ?_)|(refine LS.nilQ ?_;try with_reducible intro nq hnq;try refine zU ?_))
      exact ⟨_, H, rfl, by exact zD, by rw [tb_false (fun h => by simp [h.1.2] at h2)], rfl⟩
    · have h2 : 1 ≤ n' ∧ n' ≤ 8 := by simpa using h2
      (repeat first|refine zG ?_|(refine LS.nilO ?_;intro nq hnq hltq;try refine zU ?_)|(refine MS.new ?_;intro bq hbq hbqf;try refine zU ?_)|(refine MS.nil ?_;intro nq hnq hltq;have hlq:=hltq _ _ (Hp.get_eq _ _ _);clear hltq;try refine zU ?_)|(refine LS.nilQ ?_;try with_reducible intro nq hnq;try refine zU ?_))
      refine CS.iter 8 (fun i => [(18, i64 i), (17, .arr 8 (bys v)), (0, i64 p), (1, i64 n')]) (fun _ => (n, ⟨8, bys v, 27⟩) :: H) (fun i => ∀ j : Nat, j < i → v j < p ∧ (n' ≤ j → v j = 0)) (by (repeat first | exact trivial | refine And.intro rfl ?_)) (Drops.refl _ _) (fun j hj => by omega) ?_
      intro i n4 hi hn4 hJ
      (repeat first|refine zG ?_|(refine LS.nilO ?_;intro nq hnq hltq;try refine zU ?_)|(refine MS.new ?_;intro bq hbq hbqf;try refine zU ?_)|(refine MS.nil ?_;intro nq hnq hltq;have hlq:=hltq _ _ (Hp.get_eq _ _ _);clear hltq;try refine zU ?_)|(refine LS.nilQ ?_;try with_reducible intro nq hnq;try refine zU ?_))
      refine zI ?_ ?_<;>intro h3
      · have hvi := hv i (by omega)
        (repeat first|refine zG ?_|(refine LS.nilO ?_;intro nq hnq hltq;try refine zU ?_)|(refine MS.new ?_;intro bq hbq hbqf;try refine zU ?_)|(refine MS.nil ?_;intro nq hnq hltq;have hlq:=hltq _ _ (Hp.get_eq _ _ _);clear hltq;try refine zU ?_)|(refine LS.nilQ ?_;try with_reducible intro nq hnq;try refine zU ?_))
        refine RS.sp (t := 26) rfl (fun h4 => ?_) (fun h4 => ?_) <;> (try simp only [tb_eq, tb_eqF, decide_eq_true_eq, decide_eq_false_iff_not, beq_iff_eq, bne_iff_ne, ne_eq, Decidable.not_not, beq_eq_false_iff_ne, bne_eq_false_iff_eq, Bool.not_eq_true', Bool.not_eq_false', Bool.not_eq_eq_eq_not, Bool.not_true, Bool.not_false] at h4)
        · (repeat first|refine zG ?_|(refine LS.nilO ?_;intro nq hnq hltq;try refine zU ?_)|(refine MS.new ?_;intro bq hbq hbqf;try refine zU ?_)|(refine MS.nil ?_;intro nq hnq hltq;have hlq:=hltq _ _ (Hp.get_eq _ _ _);clear hltq;try refine zU ?_)|(refine LS.nilQ ?_;try with_reducible intro nq hnq;try refine zU ?_))
          exact ⟨_, H, rfl, by exact zD, by rw [tb_false (fun h => by have := (h.2 i (by omega)).1; omega)], rfl⟩
        · (repeat first|refine zG ?_|(refine LS.nilO ?_;intro nq hnq hltq;try refine zU ?_)|(refine MS.new ?_;intro bq hbq hbqf;try refine zU ?_)|(refine MS.nil ?_;intro nq hnq hltq;have hlq:=hltq _ _ (Hp.get_eq _ _ _);clear hltq;try refine zU ?_)|(refine LS.nilQ ?_;try with_reducible intro nq hnq;try refine zU ?_))
          refine RS.sp (t := 30) rfl (fun h5 => ?_) (fun h5 => ?_) <;> (try simp only [tb_eq, tb_eqF, decide_eq_true_eq, decide_eq_false_iff_not, beq_iff_eq, bne_iff_ne, ne_eq, Decidable.not_not, beq_eq_false_iff_ne, bne_eq_false_iff_eq, Bool.not_eq_true', Bool.not_eq_false', Bool.not_eq_eq_eq_not, Bool.not_true, Bool.not_false] at h5)
          · (repeat first|refine zG ?_|(refine LS.nilO ?_;intro nq hnq hltq;try refine zU ?_)|(refine MS.new ?_;intro bq hbq hbqf;try refine zU ?_)|(refine MS.nil ?_;intro nq hnq hltq;have hlq:=hltq _ _ (Hp.get_eq _ _ _);clear hltq;try refine zU ?_)|(refine LS.nilQ ?_;try with_reducible intro nq hnq;try refine zU ?_))
            refine zI ?_ ?_<;>intro h6
            · (repeat first|refine zG ?_|(refine LS.nilO ?_;intro nq hnq hltq;try refine zU ?_)|(refine MS.new ?_;intro bq hbq hbqf;try refine zU ?_)|(refine MS.nil ?_;intro nq hnq hltq;have hlq:=hltq _ _ (Hp.get_eq _ _ _);clear hltq;try refine zU ?_)|(refine LS.nilQ ?_;try with_reducible intro nq hnq;try refine zU ?_))
              exact ⟨_, H, rfl, by exact zD, by rw [tb_false (fun h => h6 ((h.2 i (by omega)).2 (by omega)))], rfl⟩
            · (repeat first|refine zG ?_|(refine LS.nilO ?_;intro nq hnq hltq;try refine zU ?_)|(refine MS.new ?_;intro bq hbq hbqf;try refine zU ?_)|(refine MS.nil ?_;intro nq hnq hltq;have hlq:=hltq _ _ (Hp.get_eq _ _ _);clear hltq;try refine zU ?_)|(refine LS.nilQ ?_;try with_reducible intro nq hnq;try refine zU ?_))
              refine ⟨by omega, by (repeat first | exact trivial | refine And.intro rfl ?_), by exact zD, fun j hj => ?_⟩
              by_cases e : j < i
              · exact hJ j e
              · have : j = i := by omega
                subst this; exact ⟨by omega, fun _ => h6⟩
          · (repeat first|refine zG ?_|(refine LS.nilO ?_;intro nq hnq hltq;try refine zU ?_)|(refine MS.new ?_;intro bq hbq hbqf;try refine zU ?_)|(refine MS.nil ?_;intro nq hnq hltq;have hlq:=hltq _ _ (Hp.get_eq _ _ _);clear hltq;try refine zU ?_)|(refine LS.nilQ ?_;try with_reducible intro nq hnq;try refine zU ?_))
            refine ⟨by omega, by (repeat first | exact trivial | refine And.intro rfl ?_), by exact zD, fun j hj => ?_⟩
            by_cases e : j < i
            · exact hJ j e
            · have : j = i := by omega
              subst this; exact ⟨by omega, fun h => by omega⟩
      · (repeat first|refine zG ?_|(refine LS.nilO ?_;intro nq hnq hltq;try refine zU ?_)|(refine MS.new ?_;intro bq hbq hbqf;try refine zU ?_)|(refine MS.nil ?_;intro nq hnq hltq;have hlq:=hltq _ _ (Hp.get_eq _ _ _);clear hltq;try refine zU ?_)|(refine LS.nilQ ?_;try with_reducible intro nq hnq;try refine zU ?_))
        exact ⟨_, H, rfl, by exact zD, by rw [tb_true ⟨⟨h1, h2⟩, fun j hj => hJ j (by omega)⟩], rfl⟩
/-- spec.l01Add -/
def ir47 : Cd := (.seq (.reg [⟨some 5,none,.box 27 (.t 1)⟩,⟨some 6,none,.box 27 (.t 2)⟩,⟨some 8,none,.new 27 [(8,(.int .u8 0))]⟩]) (.seq (.seq (.reg [⟨some 9,none,.mov (.c (.int .i64 0))⟩]) (.block 0 (.loop (.seq (.seq (.reg [⟨some 10,none,.mov (.t 9)⟩,⟨some 11,none,.bin .lss (.t 10) (.c (.int .i64 8))⟩]) (.cond (.t 11) .skip (.exit 0))) (.seq (.block 1 (.drw true [15] [⟨some 14,none,.mov (.t 9)⟩,⟨some 15,none,.mov (.t 0)⟩,⟨some 16,none,.mov (.t 9)⟩,⟨some 17,none,.ia 8 1 (.t 5) (.t 16)⟩,⟨some 18,none,.ld none (.t 17)⟩,⟨some 19,none,.cv .i64 (.t 18)⟩,⟨some 20,none,.mov (.t 3)⟩,⟨some 21,none,.mov (.t 9)⟩,⟨some 22,none,.ia 8 1 (.t 6) (.t 21)⟩,⟨some 23,none,.ld none (.t 22)⟩,⟨some 24,none,.cv .i64 (.t 23)⟩,⟨some 25,none,.bin .mul (.t 20) (.t 24)⟩,⟨some 26,none,.bin .add (.t 19) (.t 25)⟩,⟨some 27,none,.call 77 [(.t 15),(.t 26)]⟩,⟨some 28,none,.ia 8 1 (.t 5) (.t 14)⟩,⟨none,none,.st 1 (.t 28) (.t 27)⟩])) (.reg [⟨some 12,none,.mov (.t 9)⟩,⟨some 13,none,.bin .add (.t 12) (.c (.int .i64 1))⟩,⟨some 9,none,.mov (.t 13)⟩])))))) (.seq (.reg [⟨some 29,none,.ld (some 8) (.t 5)⟩,⟨none,none,.st 8 (.t 8) (.t 29)⟩]) .ret)))
set_option maxRecDepth 100000 in
theorem tr47 : trFn Tryz.prog Tryz.f47 = some (30, ir47, [.cell (some 8) 8]) := by kernel_rfl
theorem spec_l01Add (p k : Int) (v w : Nat → Int) (H : Hp) (n : Nat) (hp : 2 ≤ p ∧ p ≤ 31) (hv : isBy 8 v) (hw : isBy 8 w) (hk : 0 ≤ k ∧ k ≤ 100000) :
    FnS Tryz.prog 47 [i64 p, .arr 8 (bys v), .arr 8 (bys w), i64 k] H n (fun r H' _ => r = .arr 8 (bys (pl p v k w)) ∧ H' = H) := by
  refine FnS.of_body Tryz.func47 tr47 (by simp) (fun hf => ?_)
  dsimp only [argEnv]
  unfold ir47
  (repeat first|refine zG ?_|(refine LS.nilO ?_;intro nq hnq hltq;try refine zU ?_)|(refine MS.new ?_;intro bq hbq hbqf;try refine zU ?_)|(refine MS.nil ?_;intro nq hnq hltq;have hlq:=hltq _ _ (Hp.get_eq _ _ _);clear hltq;try refine zU ?_)|(refine LS.nilQ ?_;try with_reducible intro nq hnq;try refine zU ?_))
  refine CS.iter 8 (fun i => [(9, i64 i), (8, ptr (n + 2) 0), (6, ptr (n + 1) 0), (5, ptr n 0), (0, i64 p), (3, i64 k)])
    (fun i => (n + 2, ⟨8, bys (fun _ => 0), 27⟩) :: (n + 1, ⟨8, bys w, 27⟩) :: (n, ⟨8, bys (prt (pl p v k w) v i), 27⟩) :: H) (fun _ => True) (by (repeat first | exact trivial | refine And.intro rfl ?_))
    (Drops.keepc rfl rfl (fun _ _ => rfl) (Drops.keepc rfl rfl (fun _ _ => rfl) (by rw [prt_zero]; exact Drops.refl _ _))) trivial ?_
  intro i n1 hi hn _
  (repeat first|refine zG ?_|(refine LS.nilO ?_;intro nq hnq hltq;try refine zU ?_)|(refine MS.new ?_;intro bq hbq hbqf;try refine zU ?_)|(refine MS.nil ?_;intro nq hnq hltq;have hlq:=hltq _ _ (Hp.get_eq _ _ _);clear hltq;try refine zU ?_)|(refine LS.nilQ ?_;try with_reducible intro nq hnq;try refine zU ?_))
  refine zI ?_ ?_<;>intro h1
  · have hpi := prt_at (pl p v k w) v i
    have hvi := hv i (by omega)
    have hwi := hw i (by omega)
    have hm := mulB hk.1 hk.2 hwi.1 hwi.2
    have hb := modB (v i + k * w i) hp.1
    have hpl : (prt (pl p v k w) v i i + k * w i) % p = pl p v k w i := by rw [hpi]; rfl
    have hplb : 0 ≤ pl p v k w i ∧ pl p v k w i < p := hb
    (repeat first|refine zG ?_|(refine LS.nilO ?_;intro nq hnq hltq;try refine zU ?_)|(refine MS.new ?_;intro bq hbq hbqf;try refine zU ?_)|(refine MS.nil ?_;intro nq hnq hltq;have hlq:=hltq _ _ (Hp.get_eq _ _ _);clear hltq;try refine zU ?_)|(refine LS.nilQ ?_;try with_reducible intro nq hnq;try refine zU ?_))
    refine LS.callQ (u8 (pl p v k w i)) rfl (fun n' hn' => (spec_l01Mod p (prt (pl p v k w) v i i + k * w i) _ _ hp.1 hp.2 (by omega)).mono (fun r H' _ _ h => by rw [hpl] at h; exact h)) ?_
    (repeat first|refine zG ?_|(refine LS.nilO ?_;intro nq hnq hltq;try refine zU ?_)|(refine MS.new ?_;intro bq hbq hbqf;try refine zU ?_)|(refine MS.nil ?_;intro nq hnq hltq;have hlq:=hltq _ _ (Hp.get_eq _ _ _);clear hltq;try refine zU ?_)|(refine LS.nilQ ?_;try with_reducible intro nq hnq;try refine zU ?_))
    exact ⟨by omega, by (repeat first | exact trivial | refine And.intro rfl ?_), Drops.keepc rfl rfl (fun _ _ => rfl) (Drops.keepc rfl rfl (fun _ _ => rfl) (Drops.keepc rfl rfl (fun q hq => prt_put _ _ _ _) (Drops.refl _ _))), trivial⟩
  · have : i = 8 := by omega
    subst this
    (repeat first|refine zG ?_|(refine LS.nilO ?_;intro nq hnq hltq;try refine zU ?_)|(refine MS.new ?_;intro bq hbq hbqf;try refine zU ?_)|(refine MS.nil ?_;intro nq hnq hltq;have hlq:=hltq _ _ (Hp.get_eq _ _ _);clear hltq;try refine zU ?_)|(refine LS.nilQ ?_;try with_reducible intro nq hnq;try refine zU ?_))
    exact ⟨.arr 8 (bys (pl p v k w)), H, conc_arr (fun q hq => congrArg (SV.int .u8) (by simp only [Nat.zero_add]; exact prt_all _ _ _ _ hq)), by exact zD, rfl, rfl⟩
/-- spec.l02Sums -/
def ir142 : Cd := (.seq (.reg [⟨some 5,none,.box 46 (.t 0)⟩,⟨some 10,none,.mov (.c (.int .u8 0))⟩,⟨some 11,none,.mov (.c (.int .u8 0))⟩]) (.seq (.reg [⟨some 12,none,.mov (.c (.int .i64 0))⟩,⟨some 13,none,.mov (.c (.int .i64 0))⟩]) (.seq (.seq (.reg [⟨some 14,none,.mov (.c (.int .i64 0))⟩]) (.block 0 (.loop (.seq (.seq (.reg [⟨some 15,none,.mov (.t 14)⟩,⟨some 16,none,.fa 1 (.t 5)⟩,⟨some 17,none,.ld none (.t 16)⟩,⟨some 18,none,.bin .lss (.t 15) (.t 17)⟩]) (.cond (.t 18) .skip (.exit 0))) (.seq (.block 1 (.seq (.drw true [] [⟨some 21,none,.mov (.t 12)⟩,⟨some 22,none,.mov (.t 1)⟩,⟨some 23,none,.mov (.t 14)⟩,⟨some 24,none,.mov (.t 4)⟩,⟨some 25,none,.fa 10 (.t 5)⟩,⟨some 26,none,.ia 8 64 (.t 25) (.t 22)⟩,⟨some 27,none,.ia 8 8 (.t 26) (.t 23)⟩,⟨some 28,none,.ia 8 1 (.t 27) (.t 24)⟩,⟨some 29,none,.ld none (.t 28)⟩,⟨some 30,none,.cv .i64 (.t 29)⟩,⟨some 31,none,.mov (.t 14)⟩,⟨some 32,none,.mov (.t 2)⟩,⟨some 33,none,.mov (.t 3)⟩,⟨some 34,none,.fa 10 (.t 5)⟩,⟨some 35,none,.ia 8 64 (.t 34) (.t 31)⟩,⟨some 36,none,.ia 8 8 (.t 35) (.t 32)⟩,⟨some 37,none,.ia 8 1 (.t 36) (.t 33)⟩,⟨some 38,none,.ld none (.t 37)⟩,⟨some 39,none,.cv .i64 (.t 38)⟩,⟨some 40,none,.bin .mul (.t 30) (.t 39)⟩,⟨some 41,none,.bin .add (.t 21) (.t 40)⟩,⟨some 12,none,.mov (.t 41)⟩]) (.drw true [] [⟨some 42,none,.mov (.t 13)⟩,⟨some 43,none,.mov (.t 1)⟩,⟨some 44,none,.mov (.t 2)⟩,⟨some 45,none,.mov (.t 14)⟩,⟨some 46,none,.fa 10 (.t 5)⟩,⟨some 47,none,.ia 8 64 (.t 46) (.t 43)⟩,⟨some 48,none,.ia 8 8 (.t 47) (.t 44)⟩,⟨some 49,none,.ia 8 1 (.t 48) (.t 45)⟩,⟨some 50,none,.ld none (.t 49)⟩,⟨some 51,none,.cv .i64 (.t 50)⟩,⟨some 52,none,.mov (.t 14)⟩,⟨some 53,none,.mov (.t 3)⟩,⟨some 54,none,.mov (.t 4)⟩,⟨some 55,none,.fa 10 (.t 5)⟩,⟨some 56,none,.ia 8 64 (.t 55) (.t 52)⟩,⟨some 57,none,.ia 8 8 (.t 56) (.t 53)⟩,⟨some 58,none,.ia 8 1 (.t 57) (.t 54)⟩,⟨some 59,none,.ld none (.t 58)⟩,⟨some 60,none,.cv .i64 (.t 59)⟩,⟨some 61,none,.bin .mul (.t 51) (.t 60)⟩,⟨some 62,none,.bin .add (.t 42) (.t 61)⟩,⟨some 13,none,.mov (.t 62)⟩]))) (.reg [⟨some 19,none,.mov (.t 14)⟩,⟨some 20,none,.bin .add (.t 19) (.c (.int .i64 1))⟩,⟨some 14,none,.mov (.t 20)⟩])))))) (.seq (.drw true [7] [⟨some 63,none,.fa 0 (.t 5)⟩,⟨some 64,none,.ld none (.t 63)⟩,⟨some 65,none,.mov (.t 12)⟩,⟨some 66,none,.call 77 [(.t 64),(.t 65)]⟩,⟨some 67,none,.fa 0 (.t 5)⟩,⟨some 68,none,.ld none (.t 67)⟩,⟨some 69,none,.mov (.t 13)⟩,⟨some 70,none,.call 77 [(.t 68),(.t 69)]⟩,⟨some 10,none,.mov (.t 66)⟩,⟨some 11,none,.mov (.t 70)⟩]) .ret))))
set_option maxRecDepth 100000 in
theorem tr142 : trFn Tryz.prog Tryz.f142 = some (71, ir142, [.tmp 10, .tmp 11]) := by kernel_rfl
theorem spec_l02Sums (p : Int) (a i j k l : Nat) (ii jj kk ll : Int) (c : Nat → Int) (K : Nat → SV) (H : Hp) (n : Nat) (hp : 2 ≤ p ∧ p ≤ 31) (ha : a ≤ 8) (hi : i < a ∧ ii = i) (hj : j < a ∧ jj = j) (hk : k < a ∧ kk = k) (hl : l < a ∧ ll = l)
    (h0 : K 0 = .int .i64 p) (h1 : K 1 = .int .i64 a) (hK : ∀ q, q < 512 → K (10 + q) = .int .u8 (c q)) (hc : isBy 512 c) :
    FnS Tryz.prog 142 [.arr 522 K, i64 ii, i64 jj, i64 kk, i64 ll] H n (fun r H' _ => r = .tup [u8 (cosum1 p c i j k l a), u8 (cosum2 p c i j k l a)] ∧ H' = H) := by
  obtain ⟨hi, rfl⟩ := hi
  obtain ⟨hj, rfl⟩ := hj
  obtain ⟨hk, rfl⟩ := hk
  obtain ⟨hl, rfl⟩ := hl
  refine FnS.of_body Tryz.func142 tr142 (by simp) (fun hf => ?_)
  dsimp only [argEnv]
  unfold ir142
  (repeat first|refine zG ?_|(refine LS.nilO ?_;intro nq hnq hltq;try refine zU ?_)|(refine MS.new ?_;intro bq hbq hbqf;try refine zU ?_)|(refine MS.nil ?_;intro nq hnq hltq;have hlq:=hltq _ _ (Hp.get_eq _ _ _);clear hltq;try refine zU ?_)|(refine LS.nilQ ?_;try with_reducible intro nq hnq;try refine zU ?_))
  refine CS.iter a (fun x => [(14, i64 x), (12, i64 (sm (fun a => c (64 * i + 8 * a + l) * c (64 * a + 8 * j + k)) x)), (13, i64 (sm (fun a => c (64 * i + 8 * j + a) * c (64 * a + 8 * k + l)) x)), (5, ptr n 0), (1, i64 i), (2, i64 j), (3, i64 k), (4, i64 l)])
    (fun _ => (n, ⟨522, K, 46⟩) :: H) (fun _ => True) (by (repeat first | exact trivial | refine And.intro rfl ?_)) (by exact zD) trivial ?_
  intro x n3 hx hn _
  have hs1 := sm_b (f := fun a => c (64 * i + 8 * a + l) * c (64 * a + 8 * j + k)) (B := 65025) (n := x) (fun q hq => by
    have h1 := hc (64 * i + 8 * q + l) (by omega)
    have h2 := hc (64 * q + 8 * j + k) (by omega)
    exact mulB h1.1 h1.2 h2.1 h2.2)
  have hs2 := sm_b (f := fun a => c (64 * i + 8 * j + a) * c (64 * a + 8 * k + l)) (B := 65025) (n := x) (fun q hq => by
    have h1 := hc (64 * i + 8 * j + q) (by omega)
    have h2 := hc (64 * q + 8 * k + l) (by omega)
    exact mulB h1.1 h1.2 h2.1 h2.2)
  (repeat first|refine zG ?_|(refine LS.nilO ?_;intro nq hnq hltq;try refine zU ?_)|(refine MS.new ?_;intro bq hbq hbqf;try refine zU ?_)|(refine MS.nil ?_;intro nq hnq hltq;have hlq:=hltq _ _ (Hp.get_eq _ _ _);clear hltq;try refine zU ?_)|(refine LS.nilQ ?_;try with_reducible intro nq hnq;try refine zU ?_))
  refine zI ?_ ?_<;>intro h2
  · have g1 := hc (64 * i + 8 * x + l) (by omega)
    have g2 := hc (64 * x + 8 * j + k) (by omega)
    have g3 := mulB g1.1 g1.2 g2.1 g2.2
    have g4 := hc (64 * i + 8 * j + x) (by omega)
    have g5 := hc (64 * x + 8 * k + l) (by omega)
    have g6 := mulB g4.1 g4.2 g5.1 g5.2
    (repeat first|refine zG ?_|(refine LS.nilO ?_;intro nq hnq hltq;try refine zU ?_)|(refine MS.new ?_;intro bq hbq hbqf;try refine zU ?_)|(refine MS.nil ?_;intro nq hnq hltq;have hlq:=hltq _ _ (Hp.get_eq _ _ _);clear hltq;try refine zU ?_)|(refine LS.nilQ ?_;try with_reducible intro nq hnq;try refine zU ?_))
    exact ⟨by omega, by (repeat first | exact trivial | refine And.intro rfl ?_), Drops.refl _ _, trivial⟩
  · have : x = a := by omega
    subst this
    (repeat first|refine zG ?_|(refine LS.nilO ?_;intro nq hnq hltq;try refine zU ?_)|(refine MS.new ?_;intro bq hbq hbqf;try refine zU ?_)|(refine MS.nil ?_;intro nq hnq hltq;have hlq:=hltq _ _ (Hp.get_eq _ _ _);clear hltq;try refine zU ?_)|(refine LS.nilQ ?_;try with_reducible intro nq hnq;try refine zU ?_))
    refine LS.callQ (u8 (cosum1 p c i j k l x)) rfl (fun n' hn' => spec_l01Mod p _ _ _ hp.1 hp.2 (by omega)) ?_
    (repeat first|refine zG ?_|(refine LS.nilO ?_;intro nq hnq hltq;try refine zU ?_)|(refine MS.new ?_;intro bq hbq hbqf;try refine zU ?_)|(refine MS.nil ?_;intro nq hnq hltq;have hlq:=hltq _ _ (Hp.get_eq _ _ _);clear hltq;try refine zU ?_)|(refine LS.nilQ ?_;try with_reducible intro nq hnq;try refine zU ?_))
    refine RS.call rfl ((spec_l01Mod p _ _ _ hp.1 hp.2 (by omega)).mono ?_)
    rintro r H n7 hn7 ⟨rfl, rfl⟩
    (repeat first|refine zG ?_|(refine LS.nilO ?_;intro nq hnq hltq;try refine zU ?_)|(refine MS.new ?_;intro bq hbq hbqf;try refine zU ?_)|(refine MS.nil ?_;intro nq hnq hltq;have hlq:=hltq _ _ (Hp.get_eq _ _ _);clear hltq;try refine zU ?_)|(refine LS.nilQ ?_;try with_reducible intro nq hnq;try refine zU ?_))
    exact ⟨_, H, rfl, by exact zD, rfl, rfl⟩
/-- (*impl.Hopf).counit -/
def ir129 : Cd := (.seq (.reg [⟨some 3,none,.box 27 (.t 1)⟩,⟨some 4,none,.mov (.c (.int .i64 0))⟩]) (.seq (.drwo true [7] [0,2,3,4,5,6,1,7,8] [⟨some 5,none,.mov (.t 0)⟩,⟨some 6,none,.call 49 [(.t 5)]⟩,⟨some 7,none,.mov (.t 0)⟩,⟨some 8,none,.ck (.t 7)⟩,⟨some 9,none,.fa 522 (.t 8)⟩,⟨some 10,none,.ld (some 8) (.t 9)⟩,⟨some 11,none,.ld (some 8) (.t 3)⟩,⟨some 12,none,.call 139 [(.t 6),(.t 10),(.t 11)]⟩,⟨some 4,none,.mov (.t 12)⟩]) .ret))
set_option maxRecDepth 100000 in
theorem tr129 : trFn Tryz.prog Tryz.f129 = some (13, ir129, [.tmp 4]) := by kernel_rfl
theorem Hopf_counit (h : HT) (a : Nat) (v : Nat → Int) (b : Nat) (K : Blk) (H : Hp) (n : Nat) (hS : HS h a) (hb : H.get b = some K) (hsz : K.size = 1106) (hK : h.At K.c) (hB : h.By) (hv : isBy 8 v) :
    FnS Tryz.prog 129 [ptr b 0, .arr 8 (bys v)] H n (fun r H' _ => r = i64 (dotk h.p h.e v 8) ∧ H' = H) := by
  have hp := hS.hp
  have ha := hS.ha
  have hk1 := hK.n
  rw [hS.hn] at hk1
  have hk5 := hK.e
  refine FnS.of_body Tryz.func129 tr129 (by simp) (fun hf => ?_)
  dsimp only [argEnv]
  unfold ir129
  have hbn := getlt hf hb
  (repeat first|refine zG ?_|(refine LS.nilO ?_;intro nq hnq hltq;try refine zU ?_)|(refine MS.new ?_;intro bq hbq hbqf;try refine zU ?_)|(refine MS.nil ?_;intro nq hnq hltq;have hlq:=hltq _ _ (Hp.get_eq _ _ _);clear hltq;try refine zU ?_)|(refine LS.nilQ ?_;try with_reducible intro nq hnq;try refine zU ?_))
  refine CS.quietLo ?_
  (repeat first|refine zG ?_|(refine LS.nilO ?_;intro nq hnq hltq;try refine zU ?_)|(refine MS.new ?_;intro bq hbq hbqf;try refine zU ?_)|(refine MS.nil ?_;intro nq hnq hltq;have hlq:=hltq _ _ (Hp.get_eq _ _ _);clear hltq;try refine zU ?_)|(refine LS.nilQ ?_;try with_reducible intro nq hnq;try refine zU ?_))
  refine LS.callQ (fld h.p a) rfl (fun n' hn' => Hopf_field h.p a b K _ _ (by exact zH) hsz hK.p hk1 (by omega)) ?_
  (repeat first|refine zG ?_|(refine LS.nilO ?_;intro nq hnq hltq;try refine zU ?_)|(refine MS.new ?_;intro bq hbq hbqf;try refine zU ?_)|(refine MS.nil ?_;intro nq hnq hltq;have hlq:=hltq _ _ (Hp.get_eq _ _ _);clear hltq;try refine zU ?_)|(refine LS.nilQ ?_;try with_reducible intro nq hnq;try refine zU ?_))
  refine LS.callQ (i64 (dotk h.p h.e v 8)) rfl (fun n' hn' => field_dot h.p a h.e v _ _ hp hB.e hv) ?_
  (repeat first|refine zG ?_|(refine LS.nilO ?_;intro nq hnq hltq;try refine zU ?_)|(refine MS.new ?_;intro bq hbq hbqf;try refine zU ?_)|(refine MS.nil ?_;intro nq hnq hltq;have hlq:=hltq _ _ (Hp.get_eq _ _ _);clear hltq;try refine zU ?_)|(refine LS.nilQ ?_;try with_reducible intro nq hnq;try refine zU ?_))
  exact ⟨_, H, rfl, by exact zD, rfl, rfl⟩
end Go.Proofs.YtbknndbfbebkdabGreatR
