/- Contracts of the program's functions. -/
import Derived.Test.YtdellpnmbgjofaaR
import Derived.Test.YtdellpnmbgjofaaB0a
import Derived.Test.YtdellpnmbgjofaaB0b
import Derived.Test.YtdellpnmbgjofaaB0c
namespace Go.Proofs.Ytdellpnmbgjofaa
open Go.V
set_option linter.unusedSimpArgs false
set_option linter.unusedVariables false
set_option maxHeartbeats 4000000
/-- impl.IsVector -/
def ir49 : Cd := (.seq (.reg [⟨some 5,none,.box 27 (.t 2)⟩,⟨some 6,none,.mov (.c (.bool false))⟩]) (.seq (.seq (.reg [⟨some 9,none,.mov (.t 0)⟩,⟨some 10,none,.call 55 [(.t 9)]⟩,⟨some 11,none,.un .not (.t 10)⟩,⟨some 12,none,.mov (.t 11)⟩,⟨some 13,(some (12,false)),.mov (.t 1)⟩,⟨some 14,(some (12,false)),.call 56 [(.t 13),(.c (.int .i64 1)),(.c (.int .i64 8))]⟩,⟨some 15,(some (12,false)),.un .not (.t 14)⟩,⟨some 16,none,.pick (.t 12) (.c (.bool true)) (.t 15)⟩]) (.cond (.t 16) (.seq (.reg [⟨some 6,none,.mov (.c (.bool false))⟩]) .ret) .skip)) (.seq (.seq (.reg [⟨some 17,none,.ld (some 8) (.t 5)⟩,⟨some 18,none,.mov (.c (.int .i64 0))⟩]) (.block 0 (.loop (.seq (.reg [⟨some 19,none,.bin .lss (.t 18) (.c (.int .i64 8))⟩]) (.seq (.cond (.t 19) .skip (.exit 0)) (.seq (.block 1 (.seq (.reg [⟨some 20,none,.mov (.t 18)⟩,⟨some 21,none,.ix 8 1 none (.t 17) (.t 18)⟩,⟨some 7,none,.mov (.t 20)⟩,⟨some 8,none,.mov (.t 21)⟩]) (.seq (.reg [⟨some 22,none,.mov (.t 8)⟩,⟨some 23,none,.cv .i64 (.t 22)⟩,⟨some 24,none,.mov (.t 0)⟩,⟨some 25,none,.bin .geq (.t 23) (.t 24)⟩,⟨some 26,none,.mov (.t 25)⟩,⟨some 27,(some (26,false)),.mov (.t 7)⟩,⟨some 28,(some (26,false)),.mov (.t 1)⟩,⟨some 29,(some (26,false)),.bin .geq (.t 27) (.t 28)⟩,⟨some 30,(some (26,false)),.mov (.t 29)⟩,⟨some 31,(some (30,true)),.mov (.t 8)⟩,⟨some 32,(some (30,true)),.bin .neq (.t 31) (.c (.int .u8 0))⟩,⟨some 33,(some (26,false)),.pick (.t 30) (.t 32) (.c (.bool false))⟩,⟨some 34,none,.pick (.t 26) (.c (.bool true)) (.t 33)⟩]) (.cond (.t 34) (.seq (.reg [⟨some 6,none,.mov (.c (.bool false))⟩]) .ret) .skip)))) (.reg [⟨some 35,none,.bin .add (.t 18) (.c (.int .i64 1))⟩,⟨some 18,none,.mov (.t 35)⟩]))))))) (.seq (.reg [⟨some 6,none,.mov (.c (.bool true))⟩]) .ret))))
set_option maxRecDepth 100000 in
theorem tr49 : trFn Try.prog Try.f49 = some (36, ir49, [.tmp 6]) := by kernel_rfl
theorem impl_IsVector (p n' : Int) (v : Nat → Int) (H : Hp) (n : Nat) (hv : isBy 8 v) :
    FnS Try.prog 49 [i64 p, i64 n', .arr 8 (bys v)] H n (fun r H' _ => r = bl (tb (sz p n' ∧ isVec p n' v)) ∧ H' = H) := by
  refine FnS.of_body Try.func49 tr49 (by simp) (fun hf => ?_)
  dsimp only [argEnv]
  unfold ir49
  (repeat first|refine zG ?_|(refine LS.nilO ?_;intro nq hnq hltq;try refine zU ?_)|(refine MS.new ?_;intro bq hbq hbqf;try refine zU ?_)|(refine MS.nil ?_;intro nq hnq hltq;have hlq:=hltq _ _ (Hp.get_eq _ _ _);clear hltq;try refine zU ?_)|(refine LS.nilQ ?_;try with_reducible intro nq hnq;try refine zU ?_))
  refine RS.call rfl ((impl_IsPrime _ _ _).mono ?_)
  rintro r H' n2 hn2 ⟨rfl, rfl⟩
  (repeat first|refine zG ?_|(refine LS.nilO ?_;intro nq hnq hltq;try refine zU ?_)|(refine MS.new ?_;intro bq hbq hbqf;try refine zU ?_)|(refine MS.nil ?_;intro nq hnq hltq;have hlq:=hltq _ _ (Hp.get_eq _ _ _);clear hltq;try refine zU ?_)|(refine LS.nilQ ?_;try with_reducible intro nq hnq;try refine zU ?_))
  refine RS.sp (t := 12) rfl (fun h1 => ?_) (fun h1 => ?_) <;> (try simp only [tb_eq, tb_eqF, decide_eq_true_eq, decide_eq_false_iff_not, beq_iff_eq, bne_iff_ne, ne_eq, Decidable.not_not, beq_eq_false_iff_ne, bne_eq_false_iff_eq, Bool.not_eq_true', Bool.not_eq_false', Bool.not_eq_eq_eq_not, Bool.not_true, Bool.not_false] at h1)
  · (repeat first|refine zG ?_|(refine LS.nilO ?_;intro nq hnq hltq;try refine zU ?_)|(refine MS.new ?_;intro bq hbq hbqf;try refine zU ?_)|(refine MS.nil ?_;intro nq hnq hltq;have hlq:=hltq _ _ (Hp.get_eq _ _ _);clear hltq;try refine zU ?_)|(refine LS.nilQ ?_;try with_reducible intro nq hnq;try refine zU ?_))
    exact ⟨_, H, rfl, by exact zD, by rw [tb_false (fun h => by simp [h.1.1] at h1)], rfl⟩
  · (repeat first|refine zG ?_|(refine LS.nilO ?_;intro nq hnq hltq;try refine zU ?_)|(refine MS.new ?_;intro bq hbq hbqf;try refine zU ?_)|(refine MS.nil ?_;intro nq hnq hltq;have hlq:=hltq _ _ (Hp.get_eq _ _ _);clear hltq;try refine zU ?_)|(refine LS.nilQ ?_;try with_reducible intro nq hnq;try refine zU ?_))
    refine RS.call rfl ((impl_in _ _ _ _ _).mono ?_)
    rintro r H' n3 hn3 ⟨rfl, rfl⟩
    (repeat first|refine zG ?_|(refine LS.nilO ?_;intro nq hnq hltq;try refine zU ?_)|(refine MS.new ?_;intro bq hbq hbqf;try refine zU ?_)|(refine MS.nil ?_;intro nq hnq hltq;have hlq:=hltq _ _ (Hp.get_eq _ _ _);clear hltq;try refine zU ?_)|(refine LS.nilQ ?_;try with_reducible intro nq hnq;try refine zU ?_))
    refine zI ?_ ?_<;>intro h2
    · (repeat first|refine zG ?_|(refine LS.nilO ?_;intro nq hnq hltq;try refine zU ?_)|(refine MS.new ?_;intro bq hbq hbqf;try refine zU ?_)|(refine MS.nil ?_;intro nq hnq hltq;have hlq:=hltq _ _ (Hp.get_eq _ _ _);clear hltq;try refine zU ?_)|(refine LS.nilQ ?_;try with_reducible intro nq hnq;try refine zU ?_))
      exact ⟨_, H, rfl, by exact zD, by rw [tb_false (fun h => by simp [h.1.2] at h2)], rfl⟩
    · have h2 : 1 ≤ n' ∧ n' ≤ 8 := by simpa using h2
      (repeat first|refine zG ?_|(refine LS.nilO ?_;intro nq hnq hltq;try refine zU ?_)|(refine MS.new ?_;intro bq hbq hbqf;try refine zU ?_)|(refine MS.nil ?_;intro nq hnq hltq;have hlq:=hltq _ _ (Hp.get_eq _ _ _);clear hltq;try refine zU ?_)|(refine LS.nilQ ?_;try with_reducible intro nq hnq;try refine zU ?_))
      refine CS.iter 8 (fun i => [(18, i64 i), (17, .arr 8 (bys v)), (0, i64 p), (1, i64 n')]) (fun _ => (n, ⟨8, bys v, 27⟩) :: H) (fun i => ∀ j : Nat, j < i → v j < p ∧ (n' ≤ j → v j = 0)) (by (repeat first | exact trivial | refine And.intro rfl ?_)) (Drops.refl _ _) (fun j hj => by omega) ?_
      intro i n4 hi hn4 hJ
      (repeat first|refine zG ?_|(refine LS.nilO ?_;intro nq hnq hltq;try refine zU ?_)|(refine MS.new ?_;intro bq hbq hbqf;try refine zU ?_)|(refine MS.nil ?_;intro nq hnq hltq;have hlq:=hltq _ _ (Hp.get_eq _ _ _);clear hltq;try refine zU ?_)|(refine LS.nilQ ?_;try with_reducible intro nq hnq;try refine zU ?_))
      refine zI ?_ ?_<;>intro h3
      · have hvi := hv i (by omega)
        (repeat first|refine zG ?_|(refine LS.nilO ?_;intro nq hnq hltq;try refine zU ?_)|(refine MS.new ?_;intro bq hbq hbqf;try refine zU ?_)|(refine MS.nil ?_;intro nq hnq hltq;have hlq:=hltq _ _ (Hp.get_eq _ _ _);clear hltq;try refine zU ?_)|(refine LS.nilQ ?_;try with_reducible intro nq hnq;try refine zU ?_))
        refine RS.sp (t := 26) rfl (fun h4 => ?_) (fun h4 => ?_) <;> (try simp only [tb_eq, tb_eqF, decide_eq_true_eq, decide_eq_false_iff_not, beq_iff_eq, bne_iff_ne, ne_eq, Decidable.not_not, beq_eq_false_iff_ne, bne_eq_false_iff_eq, Bool.not_eq_true', Bool.not_eq_false', Bool.not_eq_eq_eq_not, Bool.not_true, Bool.not_false] at h4)
        · (repeat first|refine zG ?_|(refine LS.nilO ?_;intro nq hnq hltq;try refine zU ?_)|(refine MS.new ?_;intro bq hbq hbqf;try refine zU ?_)|(refine MS.nil ?_;intro nq hnq hltq;have hlq:=hltq _ _ (Hp.get_eq _ _ _);clear hltq;try refine zU ?_)|(refine LS.nilQ ?_;try with_reducible intro nq hnq;try refine zU ?_))
          exact ⟨_, H, rfl, by exact zD, by rw [tb_false (fun h => by have := (h.2 i (by omega)).1; omega)], rfl⟩
        · (repeat first|refine zG ?_|(refine LS.nilO ?_;intro nq hnq hltq;try refine zU ?_)|(refine MS.new ?_;intro bq hbq hbqf;try refine zU ?_)|(refine MS.nil ?_;intro nq hnq hltq;have hlq:=hltq _ _ (Hp.get_eq _ _ _);clear hltq;try refine zU ?_)|(refine LS.nilQ ?_;try with_reducible intro nq hnq;try refine zU ?_))
          refine RS.sp (t := 30) rfl (fun h5 => ?_) (fun h5 => ?_) <;> (try simp only [tb_eq, tb_eqF, decide_eq_true_eq, decide_eq_false_iff_not, beq_iff_eq, bne_iff_ne, ne_eq, Decidable.not_not, beq_eq_false_iff_ne, bne_eq_false_iff_eq, Bool.not_eq_true', Bool.not_eq_false', Bool.not_eq_eq_eq_not, Bool.not_true, Bool.not_false] at h5)
          · (repeat first|refine zG ?_|(refine LS.nilO ?_;intro nq hnq hltq;try refine zU ?_)|(refine MS.new ?_;intro bq hbq hbqf;try refine zU ?_)|(refine MS.nil ?_;intro nq hnq hltq;have hlq:=hltq _ _ (Hp.get_eq _ _ _);clear hltq;try refine zU ?_)|(refine LS.nilQ ?_;try with_reducible intro nq hnq;try refine zU ?_))
            refine zI ?_ ?_<;>intro h6
            · (repeat first|refine zG ?_|(refine LS.nilO ?_;intro nq hnq hltq;try refine zU ?_)|(refine MS.new ?_;intro bq hbq hbqf;try refine zU ?_)|(refine MS.nil ?_;intro nq hnq hltq;have hlq:=hltq _ _ (Hp.get_eq _ _ _);clear hltq;try refine zU ?_)|(refine LS.nilQ ?_;try with_reducible intro nq hnq;try refine zU ?_))
              exact ⟨_, H, rfl, by exact zD, by rw [tb_false (fun h => h6 ((h.2 i (by omega)).2 (by omega)))], rfl⟩
            · (repeat first|refine zG ?_|(refine LS.nilO ?_;intro nq hnq hltq;try refine zU ?_)|(refine MS.new ?_;intro bq hbq hbqf;try refine zU ?_)|(refine MS.nil ?_;intro nq hnq hltq;have hlq:=hltq _ _ (Hp.get_eq _ _ _);clear hltq;try refine zU ?_)|(refine LS.nilQ ?_;try with_reducible intro nq hnq;try refine zU ?_))
              refine ⟨by omega, by (repeat first | exact trivial | refine And.intro rfl ?_), by exact zD, fun j hj => ?_⟩
              by_cases e : j < i
              · exact hJ j e
              · have : j = i := by omega
                subst this; exact ⟨by omega, fun _ => h6⟩
          · (repeat first|refine zG ?_|(refine LS.nilO ?_;intro nq hnq hltq;try refine zU ?_)|(refine MS.new ?_;intro bq hbq hbqf;try refine zU ?_)|(refine MS.nil ?_;intro nq hnq hltq;have hlq:=hltq _ _ (Hp.get_eq _ _ _);clear hltq;try refine zU ?_)|(refine LS.nilQ ?_;try with_reducible intro nq hnq;try refine zU ?_))
            refine ⟨by omega, by (repeat first | exact trivial | refine And.intro rfl ?_), by exact zD, fun j hj => ?_⟩
            by_cases e : j < i
            · exact hJ j e
            · have : j = i := by omega
              subst this; exact ⟨by omega, fun h => by omega⟩
      · (repeat first|refine zG ?_|(refine LS.nilO ?_;intro nq hnq hltq;try refine zU ?_)|(refine MS.new ?_;intro bq hbq hbqf;try refine zU ?_)|(refine MS.nil ?_;intro nq hnq hltq;have hlq:=hltq _ _ (Hp.get_eq _ _ _);clear hltq;try refine zU ?_)|(refine LS.nilQ ?_;try with_reducible intro nq hnq;try refine zU ?_))
        exact ⟨_, H, rfl, by exact zD, by rw [tb_true ⟨⟨h1, h2⟩, fun j hj => hJ j (by omega)⟩], rfl⟩
/-- laws.toLinear -/
def ir29 : Cd := (.seq (.reg [⟨some 1,none,.box 23 (.t 0)⟩,⟨some 2,none,.new 31 [(64,(.int .u8 0))]⟩]) (.seq (.reg [⟨some 3,none,.new 31 [(64,(.int .u8 0))]⟩]) (.seq (.seq (.reg [⟨some 4,none,.mov (.c (.int .i64 0))⟩]) (.block 0 (.loop (.seq (.seq (.reg [⟨some 5,none,.mov (.t 4)⟩,⟨some 6,none,.bin .lss (.t 5) (.c (.int .i64 8))⟩]) (.cond (.t 6) .skip (.exit 0))) (.seq (.block 1 (.reg [⟨some 9,none,.mov (.t 4)⟩,⟨some 10,none,.mov (.t 4)⟩,⟨some 11,none,.ia 8 8 (.t 1) (.t 10)⟩,⟨some 12,none,.ld (some 8) (.t 11)⟩,⟨some 13,none,.call 6 [(.t 12)]⟩,⟨some 14,none,.ia 8 8 (.t 3) (.t 9)⟩,⟨none,none,.st 8 (.t 14) (.t 13)⟩])) (.reg [⟨some 7,none,.mov (.t 4)⟩,⟨some 8,none,.bin .add (.t 7) (.c (.int .i64 1))⟩,⟨some 4,none,.mov (.t 8)⟩])))))) (.seq (.reg [⟨some 15,none,.ld (some 64) (.t 3)⟩,⟨none,none,.st 64 (.t 2) (.t 15)⟩]) .ret))))
set_option maxRecDepth 100000 in
theorem tr29 : trFn Try.prog Try.f29 = some (16, ir29, [.cell (some 64) 2]) := by kernel_rfl
theorem laws_toLinear (l : Nat → Int) (H : Hp) (n : Nat) :
    FnS Try.prog 29 [.arr 64 (bys l)] H n (fun r H' _ => r = .arr 64 (bys l) ∧ H' = H) := by
  refine FnS.of_body Try.func29 tr29 (by simp) (fun hf => ?_)
  dsimp only [argEnv]
  unfold ir29
  (repeat first|refine zG ?_|(refine LS.nilO ?_;intro nq hnq hltq;try refine zU ?_)|(refine MS.new ?_;intro bq hbq hbqf;try refine zU ?_)|(refine MS.nil ?_;intro nq hnq hltq;have hlq:=hltq _ _ (Hp.get_eq _ _ _);clear hltq;try refine zU ?_)|(refine LS.nilQ ?_;try with_reducible intro nq hnq;try refine zU ?_))
  refine CS.iter 8 (fun i => [(4, i64 i), (1, ptr n 0), (2, ptr (n + 1) 0), (3, ptr (n + 2) 0)])
    (fun i => (n + 2, ⟨64, bys (rowsTo (fun _ => 0) l i), 31⟩) :: (n + 1, ⟨64, bys (fun _ => 0), 31⟩) :: (n, ⟨64, bys l, 23⟩) :: H) (fun _ => True) (by (repeat first | exact trivial | refine And.intro rfl ?_))
    (Drops.keepc rfl rfl (fun _ _ => by rw [rowsTo_zero]; rfl) (Drops.keepc rfl rfl (fun _ _ => rfl) (Drops.refl _ _))) trivial ?_
  intro i n1 hi hn _
  have hk : ∀ q, q < 64 → (bys l) (0 + q) = .int .u8 (l q) := fun q hq => by rw [Nat.zero_add]; rfl
  (repeat first|refine zG ?_|(refine LS.nilO ?_;intro nq hnq hltq;try refine zU ?_)|(refine MS.new ?_;intro bq hbq hbqf;try refine zU ?_)|(refine MS.nil ?_;intro nq hnq hltq;have hlq:=hltq _ _ (Hp.get_eq _ _ _);clear hltq;try refine zU ?_)|(refine LS.nilQ ?_;try with_reducible intro nq hnq;try refine zU ?_))
  refine zI ?_ ?_<;>intro h1
  · have hr : ∀ q, q < 8 → (bys l) (8 * i + q) = .int .u8 (l (8 * i + q)) := fun q hq => rfl
    (repeat first|refine zG ?_|(refine LS.nilO ?_;intro nq hnq hltq;try refine zU ?_)|(refine MS.new ?_;intro bq hbq hbqf;try refine zU ?_)|(refine MS.nil ?_;intro nq hnq hltq;have hlq:=hltq _ _ (Hp.get_eq _ _ _);clear hltq;try refine zU ?_)|(refine LS.nilQ ?_;try with_reducible intro nq hnq;try refine zU ?_))
    refine RS.call rfl ((laws_toVector (fun x => l (8 * i + x)) _ _).mono ?_)
    rintro r H' n2 hn2 ⟨rfl, rfl⟩
    (repeat first|refine zG ?_|(refine LS.nilO ?_;intro nq hnq hltq;try refine zU ?_)|(refine MS.new ?_;intro bq hbq hbqf;try refine zU ?_)|(refine MS.nil ?_;intro nq hnq hltq;have hlq:=hltq _ _ (Hp.get_eq _ _ _);clear hltq;try refine zU ?_)|(refine LS.nilQ ?_;try with_reducible intro nq hnq;try refine zU ?_))
    exact ⟨by omega, by (repeat first | exact trivial | refine And.intro rfl ?_), Drops.keepc rfl rfl (fun q hq => rowsTo_step (fun y hy => rfl) q) (Drops.refl _ _), trivial⟩
  · have : i = 8 := by omega
    subst this
    (repeat first|refine zG ?_|(refine LS.nilO ?_;intro nq hnq hltq;try refine zU ?_)|(refine MS.new ?_;intro bq hbq hbqf;try refine zU ?_)|(refine MS.nil ?_;intro nq hnq hltq;have hlq:=hltq _ _ (Hp.get_eq _ _ _);clear hltq;try refine zU ?_)|(refine LS.nilQ ?_;try with_reducible intro nq hnq;try refine zU ?_))
    exact ⟨.arr 64 (bys l), H, conc_arr (fun q hq => by simp only [Nat.zero_add, bys, rowsTo]; rw [if_pos (by omega)]), by exact zD, rfl, rfl⟩
end Go.Proofs.Ytdellpnmbgjofaa
