/- Contracts of the program's functions. -/
import Derived.Test.YtbknndbfbebkdabGreatRR
import Derived.Test.YtbknndbfbebkdabGreatRLW
import Derived.Test.YtbknndbfbebkdabGreatRE0a
import Derived.Test.YtbknndbfbebkdabGreatRE0b
import Derived.Test.YtbknndbfbebkdabGreatRE0c
namespace Go.Proofs.YtbknndbfbebkdabGreatR
open Go.V
set_option linter.unusedSimpArgs false
set_option linter.unusedVariables false
set_option maxHeartbeats 4000000
/-- impl.IsVector -/
def ir88 : Cd := (.seq (.reg [⟨some 5,none,.box 27 (.t 2)⟩,⟨some 6,none,.mov (.c (.bool false))⟩]) (.seq (.seq (.reg [⟨some 9,none,.mov (.t 0)⟩,⟨some 10,none,.call 114 [(.t 9)]⟩,⟨some 11,none,.un .not (.t 10)⟩,⟨some 12,none,.mov (.t 11)⟩,⟨some 13,(some (12,false)),.mov (.t 1)⟩,⟨some 14,(some (12,false)),.call 115 [(.t 13),(.c (.int .i64 1)),(.c (.int .i64 8))]⟩,⟨some 15,(some (12,false)),.un .not (.t 14)⟩,⟨some 16,none,.pick (.t 12) (.c (.bool true)) (.t 15)⟩]) (.cond (.t 16) (.seq (.reg [⟨some 6,none,.mov (.c (.bool false))⟩]) .ret) .skip)) (.seq (.seq (.reg [⟨some 17,none,.ld (some 8) (.t 5)⟩,⟨some 18,none,.mov (.c (.int .i64 0))⟩]) (.block 0 (.loop (.seq (.reg [⟨some 19,none,.bin .lss (.t 18) (.c (.int .i64 8))⟩]) (.seq (.cond (.t 19) .skip (.exit 0)) (.seq (.block 1 (.seq (.reg [⟨some 20,none,.mov (.t 18)⟩,⟨some 21,none,.ix 8 1 none (.t 17) (.t 18)⟩,⟨some 7,none,.mov (.t 20)⟩,⟨some 8,none,.mov (.t 21)⟩]) (.seq (.reg [⟨some 22,none,.mov (.t 8)⟩,⟨some 23,none,.cv .i64 (.t 22)⟩,⟨some 24,none,.mov (.t 0)⟩,⟨some 25,none,.bin .geq (.t 23) (.t 24)⟩,⟨some 26,none,.mov (.t 25)⟩,⟨some 27,(some (26,false)),.mov (.t 7)⟩,⟨some 28,(some (26,false)),.mov (.t 1)⟩,⟨some 29,(some (26,false)),.bin .geq (.t 27) (.t 28)⟩,⟨some 30,(some (26,false)),.mov (.t 29)⟩,⟨some 31,(some (30,true)),.mov (.t 8)⟩,⟨some 32,(some (30,true)),.bin .neq (.t 31) (.c (.int .u8 0))⟩,⟨some 33,(some (26,false)),.pick (.t 30) (.t 32) (.c (.bool false))⟩,⟨some 34,none,.pick (.t 26) (.c (.bool true)) (.t 33)⟩]) (.cond (.t 34) (.seq (.reg [⟨some 6,none,.mov (.c (.bool false))⟩]) .ret) .skip)))) (.reg [⟨some 35,none,.bin .add (.t 18) (.c (.int .i64 1))⟩,⟨some 18,none,.mov (.t 35)⟩]))))))) (.seq (.reg [⟨some 6,none,.mov (.c (.bool true))⟩]) .ret))))
set_option maxRecDepth 100000 in
theorem tr88 : trFn Tryz.prog Tryz.f88 = some (36, ir88, [.tmp 6]) := by kernel_rfl
theorem impl_IsVector (p n' : Int) (v : Nat → Int) (H : Hp) (n : Nat) (hv : isBy 8 v) :
    FnS Tryz.prog 88 [i64 p, i64 n', .arr 8 (bys v)] H n (fun r H' _ => r = bl (tb (sz p n' ∧ isVec p n' v)) ∧ H' = H) := by
  refine FnS.of_body Tryz.func88 tr88 (by simp) (fun hf => ?_)
  dsimp only [argEnv]
  unfold ir88
  (repeat first|refine zG ?_|(refine LS.nilO ?_;intro nq hnq hltq;try refine zU ?_)|(refine MS.new ?_;intro bq hbq hbqf;try refine zU ?_)|(refine MS.nil ?_;intro nq hnq hltq;have hlq:=hltq _ _ (Hp.get_eq _ _ _);clear hltq;try refine zU ?_)|(refine LS.nilQ ?_;try with_reducible intro nq hnq;try refine zU ?_))
  refine RS.call rfl ((impl_IsPrime _ _ _).mono ?_)
  rintro r H' n2 hn2 ⟨rfl, rfl⟩
  (repeat first|refine zG ?_|(refine LS.nilO ?_;intro nq hnq hltq;try refine zU ?_)|(refine MS.new ?_;intro bq hbq hbqf;try refine zU ?_)|(refine MS.nil ?_;intro nq hnq hltq;have hlq:=hltq _ _ (Hp.get_eq _ _ _);clear hltq;try refine zU ?_)|(refine LS.nilQ ?_;try with_reducible intro nq hnq;try refine zU ?_))
  refine RS.sp (t := 12) rfl (fun h1 => ?_) (fun h1 => ?_) <;> (try simp only [tb_eq, tb_eqF, decide_eq_true_eq, decide_eq_false_iff_not, beq_iff_eq, bne_iff_ne, ne_eq, Decidable.not_not, beq_eq_false_iff_ne, bne_eq_false_iff_eq, Bool.not_eq_true', Bool.not_eq_false', Bool.not_eq_eq_eq_not, Bool.not_true, Bool.not_false] at h1)
  · (repeat first|refine zG ?_|(refine LS.nilO ?_;intro nq hnq hltq;try refine zU ?_)|(refine MS.new ?_;intro bq hbq hbqf;try refine zU ?_)|(refine MS.nil ?_;intro nq hnq hltq;have hlq:=hltq _ _ (Hp.get_eq _ _ _);clear hltq;try refine zU ?_)|(refine LS.nilQ ?_;try with_reducible intro nq hnq;try refine zU ?_))
    exact ⟨_, H, rfl, by exact zD, by rw [tb_false (fun h => by simp [h.1.1] at h1)], rfl⟩
  · (repeat first|refine zG ?_|(refine LS.nilO ?_;intro nq hnq hltq;try refine zU ?_)|(refine MS.new ?_;intro bq hbq hbqf;try refine zU ?_)|(refine MS.nil ?_;intro nq hnq hltq;have hlq:=hltq _ _ (Hp.get_eq _ _ _);clear hltq;try refine zU ?_)|(refine LS.nilQ ?_;try with_reducible intro nq hnq;try refine zU ?_))
    refine RS.call rfl ((impl_in _ _ _ _ _).mono ?_)
    rintro r H' n3 hn3 ⟨rfl, rfl⟩
    (repeat first|refine zG ?_|(refine LS.nilO ?_;intro nq hnq hltq;try refine zU ?_)|(refine MS.new ?_;intro bq hbq hbqf;try refine zU ?_)|(refine MS.nil ?_;intro nq hnq hltq;have hlq:=hltq _ _ (Hp.get_eq _ _ _);clear hltq;try refine zU ?_)|(refine LS.nilQ ?_;try with_reducible intro nq hnq;try refine zU ?_))
    refine zI ?_ ?_<;>intro h2
    · (repeat first|refine zG ?_|(refine LS.nilO ?_;intro nq hnq hltq;try refine zU ?_)|(refine MS.new ?_;intro bq hbq hbqf;try refine zU ?_)|(refine MS.nil ?_;intro nq hnq hltq;have hlq:=hltq _ _ (Hp.get_eq _ _ _);clear hltq;try refine zU ?_)|(refine LS.nilQ ?_;try with_reducible intro nq hnq;try refine zU ?_))
      exact ⟨_, H, rfl, by exact zD, by rw [tb_false (fun h => by simp [h.1.2] at h2)], rfl⟩
    · have h2 : 1 ≤ n' ∧ n' ≤ 8 := by simpa using h2
      (repeat first|refine zG ?_|(refine LS.nilO ?_;intro nq hnq hltq;try refine zU ?_)|(refine MS.new ?_;intro bq hbq hbqf;try refine zU ?_)|(refine MS.nil ?_;intro nq hnq hltq;have hlq:=hltq _ _ (Hp.get_eq _ _ _);clear hltq;try refine zU ?_)|(refine LS.nilQ ?_;try with_reducible intro nq hnq;try refine zU ?_))
      refine CS.iter 8 (fun i => [(18, i64 i), (17, .arr 8 (bys v)), (0, i64 p), (1, i64 n')]) (fun _ => (n, ⟨8, bys v, 27⟩) :: H) (fun i => ∀ j : Nat, j < i → v j < p ∧ (n' ≤ j → v j = 0)) (by (repeat first | exact trivial | refine And.intro rfl ?_)) (Drops.refl _ _) (fun j hj => by omega) ?_
      intro i n4 hi hn4 hJ
      (repeat first|refine zG ?_|(refine LS.nilO ?_;intro nq hnq hltq;try refine zU ?_)|(refine MS.new ?_;intro bq hbq hbqf;try refine zU ?_)|(refine MS.nil ?_;intro nq hnq hltq;have hlq:=hltq _ _ (Hp.get_eq _ _ _);clear hltq;try refine zU ?_)|(refine LS.nilQ ?_;try with_reducible intro nq hnq;try refine zU ?_))
      refine zI ?_ ?_<;>intro h3
      · have hvi := hv i (by omega)
        (repeat first|refine zG ?_|(refine LS.nilO ?_;intro nq hnq hltq;try refine zU ?_)|(refine MS.new ?_;intro bq hbq hbqf;try refine zU ?_)|(refine MS.nil ?_;intro nq hnq hltq;have hlq:=hltq _ _ (Hp.get_eq _ _ _);clear hltq;try refine zU ?_)|(refine LS.nilQ ?_;try with_reducible intro nq hnq;try refine zU ?_))
        refine RS.sp (t := 26) rfl (fun h4 => ?_) (fun h4 => ?_) <;> (try simp only [tb_eq, tb_eqF, decide_eq_true_eq, decide_eq_false_iff_not, beq_iff_eq, bne_iff_ne, ne_eq, Decidable.not_not, beq_eq_false_iff_ne, bne_eq_false_iff_eq, Bool.not_eq_true', Bool.not_eq_false', Bool.not_eq_eq_eq_not, Bool.not_true, Bool.not_false] at h4)
        · (repeat first|refine zG ?_|(refine LS.nilO ?_;intro nq hnq hltq;try refine zU ?_)|(refine MS.new ?_;intro bq hbq hbqf;try refine zU ?_)|(refine MS.nil ?_;intro nq hnq hltq;have hlq:=hltq _ _ (Hp.get_eq _ _ _);clear hltq;try refine zU ?_)|(refine LS.nilQ ?_;try with_reducible intro nq hnq;try refine zU ?_))
          exact ⟨_, H, rfl, by exact zD, by rw [tb_false (fun h => by have := (h.2 i (by omega)).1; omega)], rfl⟩
        · (repeat first|refine zG ?_|(refine LS.nilO ?_;intro nq hnq hltq;try refine zU ?_)|(refine MS.new ?_;intro bq hbq hbqf;try refine zU ?_)|(refine MS.nil ?_;intro nq hnq hltq;have hlq:=hltq _ _ (Hp.get_eq _ _ _);clear hltq;try refine zU ?_)|(refine LS.nilQ ?_;try with_reducible intro nq hnq;try refine zU ?_))
          refine RS.sp (t := 30) rfl (fun h5 => ?_) (fun h5 => ?_) <;> (try simp only [tb_eq, tb_eqF, decide_eq_true_eq, decide_eq_false_iff_not, beq_iff_eq, bne_iff_ne, ne_eq, Decidable.not_not, beq_eq_false_iff_ne, bne_eq_false_iff_eq, Bool.not_eq_true', Bool.not_eq_false', Bool.not_eq_eq_eq_not, Bool.not_true, Bool.not_false] at h5)
          · (repeat first|refine zG ?_|(refine LS.nilO ?_;intro nq hnq hltq;try refine zU ?_)|(refine MS.new ?_;intro bq hbq hbqf;try refine zU ?_)|(refine MS.nil ?_;intro nq hnq hltq;have hlq:=hltq _ _ (Hp.get_eq _ _ _);clear hltq;try refine zU ?_)|(refine LS.nilQ ?_;try with_reducible intro nq hnq;try refine zU ?_))
            refine zI ?_ ?_<;>intro h6
            · (repeat first|refine zG ?_|(refine LS.nilO ?_;intro nq hnq hltq;try refine zU ?_)|(refine MS.new ?_;intro bq hbq hbqf;try refine zU ?_)|(refine MS.nil ?_;intro nq hnq hltq;have hlq:=hltq _ _ (Hp.get_eq _ _ _);clear hltq;try refine zU ?_)|(refine LS.nilQ ?_;try with_reducible intro nq hnq;try refine zU ?_))
              exact ⟨_, H, rfl, by exact zD, by rw [tb_false (fun h => h6 ((h.2 i (by omega)).2 (by omega)))], rfl⟩
            · (repeat first|refine zG ?_|(refine LS.nilO ?_;intro nq hnq hltq;try refine zU ?_)|(refine MS.new ?_;intro bq hbq hbqf;try refine zU ?_)|(refine MS.nil ?_;intro nq hnq hltq;have hlq:=hltq _ _ (Hp.get_eq _ _ _);clear hltq;try refine zU ?_)|(refine LS.nilQ ?_;try with_reducible intro nq hnq;try refine zU ?_))
              refine ⟨by omega, by (repeat first | exact trivial | refine And.intro rfl ?_), by exact zD, fun j hj => ?_⟩
              by_cases e : j < i
              · exact hJ j e
              · have : j = i := by omega
                subst this; exact ⟨by omega, fun _ => h6⟩
          · (repeat first|refine zG ?_|(refine LS.nilO ?_;intro nq hnq hltq;try refine zU ?_)|(refine MS.new ?_;intro bq hbq hbqf;try refine zU ?_)|(refine MS.nil ?_;intro nq hnq hltq;have hlq:=hltq _ _ (Hp.get_eq _ _ _);clear hltq;try refine zU ?_)|(refine LS.nilQ ?_;try with_reducible intro nq hnq;try refine zU ?_))
            refine ⟨by omega, by (repeat first | exact trivial | refine And.intro rfl ?_), by exact zD, fun j hj => ?_⟩
            by_cases e : j < i
            · exact hJ j e
            · have : j = i := by omega
              subst this; exact ⟨by omega, fun h => by omega⟩
      · (repeat first|refine zG ?_|(refine LS.nilO ?_;intro nq hnq hltq;try refine zU ?_)|(refine MS.new ?_;intro bq hbq hbqf;try refine zU ?_)|(refine MS.nil ?_;intro nq hnq hltq;have hlq:=hltq _ _ (Hp.get_eq _ _ _);clear hltq;try refine zU ?_)|(refine LS.nilQ ?_;try with_reducible intro nq hnq;try refine zU ?_))
        exact ⟨_, H, rfl, by exact zD, by rw [tb_true ⟨⟨h1, h2⟩, fun j hj => hJ j (by omega)⟩], rfl⟩
/-- spec.l01Add -/
def ir47 : Cd := (.seq (.reg [⟨some 5,none,.box 27 (.t 1)⟩,⟨some 6,none,.box 27 (.t 2)⟩,⟨some 8,none,.new 27 [(8,(.int .u8 0))]⟩]) (.seq (.seq (.reg [⟨some 9,none,.mov (.c (.int .i64 0))⟩]) (.block 0 (.loop (.seq (.seq (.reg [⟨some 10,none,.mov (.t 9)⟩,⟨some 11,none,.bin .lss (.t 10) (.c (.int .i64 8))⟩]) (.cond (.t 11) .skip (.exit 0))) (.seq (.block 1 (.drw true [15] [⟨some 14,none,.mov (.t 9)⟩,⟨some 15,none,.mov (.t 0)⟩,⟨some 16,none,.mov (.t 9)⟩,⟨some 17,none,.ia 8 1 (.t 5) (.t 16)⟩,⟨some 18,none,.ld none (.t 17)⟩,⟨some 19,none,.cv .i64 (.t 18)⟩,⟨some 20,none,.mov (.t 3)⟩,⟨some 21,none,.mov (.t 9)⟩,⟨some 22,none,.ia 8 1 (.t 6) (.t 21)⟩,⟨some 23,none,.ld none (.t 22)⟩,⟨some 24,none,.cv .i64 (.t 23)⟩,⟨some 25,none,.bin .mul (.t 20) (.t 24)⟩,⟨some 26,none,.bin .add (.t 19) (.t 25)⟩,⟨some 27,none,.call 77 [(.t 15),(.t 26)]⟩,⟨some 28,none,.ia 8 1 (.t 5) (.t 14)⟩,⟨none,none,.st 1 (.t 28) (.t 27)⟩])) (.reg [⟨some 12,none,.mov (.t 9)⟩,⟨some 13,none,.bin .add (.t 12) (.c (.int .i64 1))⟩,⟨some 9,none,.mov (.t 13)⟩])))))) (.seq (.reg [⟨some 29,none,.ld (some 8) (.t 5)⟩,⟨none,none,.st 8 (.t 8) (.t 29)⟩]) .ret)))
set_option maxRecDepth 100000 in
theorem tr47 : trFn Tryz.prog Tryz.f47 = some (30, ir47, [.cell (some 8) 8]) := by kernel_rfl
theorem spec_l01Add (p k : Int) (v w : Nat → Int) (H : Hp) (n : Nat) (hp : 2 ≤ p ∧ p ≤ 31) (hv : isBy 8 v) (hw : isBy 8 w) (hk : 0 ≤ k ∧ k ≤ 100000) :
    FnS Tryz.prog 47 [i64 p, .arr 8 (bys v), .arr 8 (bys w), i64 k] H n (fun r H' _ => r = .arr 8 (bys (pl p v k w)) ∧ H' = H) := by
  refine FnS.of_body Tryz.func47 tr47 (by simp) (fun hf => ?_)
  dsimp only [argEnv]
  unfold ir47
  (repeat first|refine zG ?_|(refine LS.nilO ?_;intro nq hnq hltq;try refine zU ?_)|(refine MS.new ?_;intro bq hbq hbqf;try refine zU ?_)|(refine MS.nil ?_;intro nq hnq hltq;have hlq:=hltq _ _ (Hp.get_eq _ _ _);clear hltq;try refine zU ?_)|(refine LS.nilQ ?_;try with_reducible intro nq hnq;try refine zU ?_))
  refine CS.iter 8 (fun i => [(9, i64 i), (8, ptr (n + 2) 0), (6, ptr (n + 1) 0), (5, ptr n 0), (0, i64 p), (3, i64 k)])
    (fun i => (n + 2, ⟨8, bys (fun _ => 0), 27⟩) :: (n + 1, ⟨8, bys w, 27⟩) :: (n, ⟨8, bys (prt (pl p v k w) v i), 27⟩) :: H) (fun _ => True) (by (repeat first | exact trivial | refine And.intro rfl ?_))
    (Drops.keepc rfl rfl (fun _ _ => rfl) (Drops.keepc rfl rfl (fun _ _ => rfl) (by rw [prt_zero]; exact Drops.refl _ _))) trivial ?_
  intro i n1 hi hn _
  (repeat first|refine zG ?_|(refine LS.nilO ?_;intro nq hnq hltq;try refine zU ?_)|(refine MS.new ?_;intro bq hbq hbqf;try refine zU ?_)|(refine MS.nil ?_;intro nq hnq hltq;have hlq:=hltq _ _ (Hp.get_eq _ _ _);clear hltq;try refine zU ?_)|(refine LS.nilQ ?_;try with_reducible intro nq hnq;try refine zU ?_))
  refine zI ?_ ?_<;>intro h1
  · have hpi := prt_at (pl p v k w) v i
    have hvi := hv i (by omega)
    have hwi := hw i (by omega)
    have hm := mulB hk.1 hk.2 hwi.1 hwi.2
    have hb := modB (v i + k * w i) hp.1
    have hpl : (prt (pl p v k w) v i i + k * w i) % p = pl p v k w i := by rw [hpi]; rfl
    have hplb : 0 ≤ pl p v k w i ∧ pl p v k w i < p := hb
    (repeat first|refine zG ?_|(refine LS.nilO ?_;intro nq hnq hltq;try refine zU ?_)|(refine MS.new ?_;intro bq hbq hbqf;try refine zU ?_)|(refine MS.nil ?_;intro nq hnq hltq;have hlq:=hltq _ _ (Hp.get_eq _ _ _);clear hltq;try refine zU ?_)|(refine LS.nilQ ?_;try with_reducible intro nq hnq;try refine zU ?_))
    refine LS.callQ (u8 (pl p v k w i)) rfl (fun n' hn' => (spec_l01Mod p (prt (pl p v k w) v i i + k * w i) _ _ hp.1 hp.2 (by omega)).mono (fun r H' _ _ h => by rw [hpl] at h; exact h)) ?_
    (repeat first|refine zG ?_|(refine LS.nilO ?_;intro nq hnq hltq;try refine zU ?_)|(refine MS.new ?_;intro bq hbq hbqf;try refine zU ?_)|(refine MS.nil ?_;intro nq hnq hltq;have hlq:=hltq _ _ (Hp.get_eq _ _ _);clear hltq;try refine zU ?_)|(refine LS.nilQ ?_;try with_reducible intro nq hnq;try refine zU ?_))
    exact ⟨by omega, by (repeat first | exact trivial | refine And.intro rfl ?_), Drops.keepc rfl rfl (fun _ _ => rfl) (Drops.keepc rfl rfl (fun _ _ => rfl) (Drops.keepc rfl rfl (fun q hq => prt_put _ _ _ _) (Drops.refl _ _))), trivial⟩
  · have : i = 8 := by omega
    subst this
    (repeat first|refine zG ?_|(refine LS.nilO ?_;intro nq hnq hltq;try refine zU ?_)|(refine MS.new ?_;intro bq hbq hbqf;try refine zU ?_)|(refine MS.nil ?_;intro nq hnq hltq;have hlq:=hltq _ _ (Hp.get_eq _ _ _);clear hltq;try refine zU ?_)|(refine LS.nilQ ?_;try with_reducible intro nq hnq;try refine zU ?_))
    exact ⟨.arr 8 (bys (pl p v k w)), H, conc_arr (fun q hq => congrArg (SV.int .u8) (by simp only [Nat.zero_add]; exact prt_all _ _ _ _ hq)), by exact zD, rfl, rfl⟩
/-- laws.eqLinear -/
def ir11 : Cd := (.seq (.reg [⟨some 2,none,.box 29 (.t 0)⟩,⟨some 3,none,.box 29 (.t 1)⟩,⟨some 4,none,.mov (.c (.bool false))⟩]) (.seq (.seq (.reg [⟨some 5,none,.mov (.c (.int .i64 0))⟩]) (.block 0 (.loop (.seq (.seq (.reg [⟨some 6,none,.mov (.t 5)⟩,⟨some 7,none,.bin .lss (.t 6) (.c (.int .i64 8))⟩]) (.cond (.t 7) .skip (.exit 0))) (.seq (.block 1 (.seq (.drw true [6] [⟨some 10,none,.mov (.t 5)⟩,⟨some 11,none,.ia 8 8 (.t 2) (.t 10)⟩,⟨some 12,none,.ld (some 8) (.t 11)⟩,⟨some 13,none,.mov (.t 5)⟩,⟨some 14,none,.ia 8 8 (.t 3) (.t 13)⟩,⟨some 15,none,.ld (some 8) (.t 14)⟩,⟨some 16,none,.call 14 [(.t 12),(.t 15)]⟩,⟨some 17,none,.un .not (.t 16)⟩]) (.cond (.t 17) (.seq (.reg [⟨some 4,none,.mov (.c (.bool false))⟩]) .ret) .skip))) (.reg [⟨some 8,none,.mov (.t 5)⟩,⟨some 9,none,.bin .add (.t 8) (.c (.int .i64 1))⟩,⟨some 5,none,.mov (.t 9)⟩])))))) (.seq (.reg [⟨some 4,none,.mov (.c (.bool true))⟩]) .ret)))
set_option maxRecDepth 100000 in
theorem tr11 : trFn Tryz.prog Tryz.f11 = some (18, ir11, [.tmp 4]) := by kernel_rfl
theorem laws_eqLinear (f g : Nat → Int) (H : Hp) (n : Nat) :
    FnS Tryz.prog 11 [.arr 64 (bys f), .arr 64 (bys g)] H n (fun r H' _ => r = bl (tb (∀ q, q < 64 → f q = g q)) ∧ H' = H) := by
  refine FnS.of_body Tryz.func11 tr11 (by simp) (fun hf => ?_)
  dsimp only [argEnv]
  unfold ir11
  (repeat first|refine zG ?_|(refine LS.nilO ?_;intro nq hnq hltq;try refine zU ?_)|(refine MS.new ?_;intro bq hbq hbqf;try refine zU ?_)|(refine MS.nil ?_;intro nq hnq hltq;have hlq:=hltq _ _ (Hp.get_eq _ _ _);clear hltq;try refine zU ?_)|(refine LS.nilQ ?_;try with_reducible intro nq hnq;try refine zU ?_))
  refine CS.iter 8 (fun i => [(5, i64 i), (2, ptr n 0), (3, ptr (n + 1) 0)]) (fun _ => (n + 1, ⟨64, bys g, 29⟩) :: (n, ⟨64, bys f, 29⟩) :: H) (fun i => ∀ q, q < 8 * i → f q = g q) (by (repeat first | exact trivial | refine And.intro rfl ?_)) (by exact zD) (fun _ h => by omega) ?_
  intro i n1 hi hn hJ
  (repeat first|refine zG ?_|(refine LS.nilO ?_;intro nq hnq hltq;try refine zU ?_)|(refine MS.new ?_;intro bq hbq hbqf;try refine zU ?_)|(refine MS.nil ?_;intro nq hnq hltq;have hlq:=hltq _ _ (Hp.get_eq _ _ _);clear hltq;try refine zU ?_)|(refine LS.nilQ ?_;try with_reducible intro nq hnq;try refine zU ?_))
  refine zI ?_ ?_<;>intro h1
  · have hr : ∀ q, q < 8 → (bys f) (8 * i + q) = .int .u8 (f (8 * i + q)) := fun q hq => rfl
    have hr2 : ∀ q, q < 8 → (bys g) (8 * i + q) = .int .u8 (g (8 * i + q)) := fun q hq => rfl
    (repeat first|refine zG ?_|(refine LS.nilO ?_;intro nq hnq hltq;try refine zU ?_)|(refine MS.new ?_;intro bq hbq hbqf;try refine zU ?_)|(refine MS.nil ?_;intro nq hnq hltq;have hlq:=hltq _ _ (Hp.get_eq _ _ _);clear hltq;try refine zU ?_)|(refine LS.nilQ ?_;try with_reducible intro nq hnq;try refine zU ?_))
    refine RS.call rfl ((laws_eqVector (fun x => f (8 * i + x)) (fun x => g (8 * i + x)) _ _).mono ?_)
    rintro r H' n2 hn2 ⟨rfl, rfl⟩
    (repeat first|refine zG ?_|(refine LS.nilO ?_;intro nq hnq hltq;try refine zU ?_)|(refine MS.new ?_;intro bq hbq hbqf;try refine zU ?_)|(refine MS.nil ?_;intro nq hnq hltq;have hlq:=hltq _ _ (Hp.get_eq _ _ _);clear hltq;try refine zU ?_)|(refine LS.nilQ ?_;try with_reducible intro nq hnq;try refine zU ?_))
    refine zI ?_ ?_<;>intro h2
    · (repeat first|refine zG ?_|(refine LS.nilO ?_;intro nq hnq hltq;try refine zU ?_)|(refine MS.new ?_;intro bq hbq hbqf;try refine zU ?_)|(refine MS.nil ?_;intro nq hnq hltq;have hlq:=hltq _ _ (Hp.get_eq _ _ _);clear hltq;try refine zU ?_)|(refine LS.nilQ ?_;try with_reducible intro nq hnq;try refine zU ?_))
      exact ⟨_, H, rfl, by exact zD, by rw [tb_false (fun q => h2 (fun x hx => q _ (by omega)))], rfl⟩
    · (repeat first|refine zG ?_|(refine LS.nilO ?_;intro nq hnq hltq;try refine zU ?_)|(refine MS.new ?_;intro bq hbq hbqf;try refine zU ?_)|(refine MS.nil ?_;intro nq hnq hltq;have hlq:=hltq _ _ (Hp.get_eq _ _ _);clear hltq;try refine zU ?_)|(refine LS.nilQ ?_;try with_reducible intro nq hnq;try refine zU ?_))
      refine ⟨by omega, by (repeat first | exact trivial | refine And.intro rfl ?_), by exact zD, fun q hq => ?_⟩
      by_cases e : q < 8 * i
      · exact hJ q e
      · have := h2 (q - 8 * i) (by omega)
        rwa [show 8 * i + (q - 8 * i) = q by omega] at this
  · have : i = 8 := by omega
    subst this
    (repeat first|refine zG ?_|(refine LS.nilO ?_;intro nq hnq hltq;try refine zU ?_)|(refine MS.new ?_;intro bq hbq hbqf;try refine zU ?_)|(refine MS.nil ?_;intro nq hnq hltq;have hlq:=hltq _ _ (Hp.get_eq _ _ _);clear hltq;try refine zU ?_)|(refine LS.nilQ ?_;try with_reducible intro nq hnq;try refine zU ?_))
    exact ⟨_, H, rfl, by exact zD, by rw [tb_true (show ∀ q, q < 64 → f q = g q from hJ)], rfl⟩
theorem impl_first2 (b c : Nat) (x y : Int) (K : Blk) (H : Hp) (n : Nat) (hb : H.get b = some K) (hs : K.size = 2) (h0 : K.c 0 = .int .i64 x) (h1 : K.c 1 = .int .i64 y) :
    FnS Tryz.prog 39 [.s (.slc b 0 2 c)] H n (fun r H' _ => r = i64 (if x ≠ 0 then x else y) ∧ H' = H) := by
  rw [← fstz2]
  exact impl_first _ 2 (by omega) (twi x y) H n ⟨b, c, K, rfl, hb, hs, fun q hq => by
    rcases (show q = 0 ∨ q = 1 by omega) with rfl | rfl
    · exact h0
    · exact h1⟩
end Go.Proofs.YtbknndbfbebkdabGreatR
