/- Left tables, first places (the spec's). -/
import Derived.Test.YtdellpnmbgjofaaVQ
import Derived.Test.YtdellpnmbgjofaaBZ
import Derived.Test.YtdellpnmbgjofaaM12
namespace Go.V
structure Fx (Q : Prop) : Prop where
  out : Q
end Go.V
namespace Go.Proofs.Ytdellpnmbgjofaa
open Go.V
set_option linter.unusedSimpArgs false
set_option linter.unusedVariables false
set_option maxHeartbeats 4000000

/-- spec.l01First -/
def ir24 : Cd := (.seq (.reg [⟨some 1,none,.box 27 (.t 0)⟩,⟨some 2,none,.mov (.c (.int .i64 0))⟩]) (.seq (.reg [⟨some 3,none,.mov (.c (.int .i64 0))⟩]) (.seq (.block 0 (.loop (.seq (.seq (.reg [⟨some 4,none,.mov (.t 3)⟩,⟨some 5,none,.bin .lss (.t 4) (.c (.int .i64 8))⟩,⟨some 6,none,.mov (.t 5)⟩,⟨some 7,(some (6,true)),.mov (.t 3)⟩,⟨some 8,(some (6,true)),.ia 8 1 (.t 1) (.t 7)⟩,⟨some 9,(some (6,true)),.ld none (.t 8)⟩,⟨some 10,(some (6,true)),.bin .eql (.t 9) (.c (.int .u8 0))⟩,⟨some 11,none,.pick (.t 6) (.t 10) (.c (.bool false))⟩]) (.cond (.t 11) .skip (.exit 0))) (.block 1 (.reg [⟨some 12,none,.mov (.t 3)⟩,⟨some 13,none,.bin .add (.t 12) (.c (.int .i64 1))⟩,⟨some 3,none,.mov (.t 13)⟩]))))) (.seq (.reg [⟨some 14,none,.mov (.t 3)⟩,⟨some 2,none,.mov (.t 14)⟩]) .ret))))
set_option maxRecDepth 100000 in
theorem tr24 : trFn Try.prog Try.f24 = some (15, ir24, [.tmp 2]) := by kernel_rfl

theorem spec_l01First (v : Nat → Int) (H : Hp) (n : Nat) :
    FnS Try.prog 24 [.arr 8 (bys v)] H n (fun r H' _ => r = i64 (fsn v 8) ∧ H' = H) := by
  refine FnS.of_body Try.func24 tr24 (by simp) (fun hf => ?_)
  dsimp only [argEnv]
  unfold ir24
  (repeat first|refine zG ?_|(refine LS.nilO ?_;intro nq hnq hltq;try refine zU ?_)|(refine MS.new ?_;intro bq hbq hbqf;try refine zU ?_)|(refine MS.nil ?_;intro nq hnq hltq;have hlq:=hltq _ _ (Hp.get_eq _ _ _);clear hltq;try refine zU ?_)|(refine LS.nilQ ?_;try with_reducible intro nq hnq;try refine zU ?_))
  refine CS.iter 8 (fun i => [(3, i64 i), (1, ptr n 0)]) (fun i => (n, ⟨8, bys v, 27⟩) :: H) (fun i => Fx (∀ j, j < i → v j = 0)) (by (repeat first | exact trivial | refine And.intro rfl ?_)) (Drops.refl _ _) ⟨fun j hj => by omega⟩ ?_
  intro i n2 hi hn hJ
  (repeat first|refine zG ?_|(refine LS.nilO ?_;intro nq hnq hltq;try refine zU ?_)|(refine MS.new ?_;intro bq hbq hbqf;try refine zU ?_)|(refine MS.nil ?_;intro nq hnq hltq;have hlq:=hltq _ _ (Hp.get_eq _ _ _);clear hltq;try refine zU ?_)|(refine LS.nilQ ?_;try with_reducible intro nq hnq;try refine zU ?_))
  by_cases h2 : i < 8
  · rw [show decide ((i : Int) < 8) = true from decide_eq_true (by omega)]
    have hv1 : (bys v) i = .int .u8 (v i) := rfl
    (repeat first|refine zG ?_|(refine LS.nilO ?_;intro nq hnq hltq;try refine zU ?_)|(refine MS.new ?_;intro bq hbq hbqf;try refine zU ?_)|(refine MS.nil ?_;intro nq hnq hltq;have hlq:=hltq _ _ (Hp.get_eq _ _ _);clear hltq;try refine zU ?_)|(refine LS.nilQ ?_;try with_reducible intro nq hnq;try refine zU ?_))
    by_cases h3 : v i = 0
    · rw [show (v i == 0) = true by simpa using h3]
      (repeat first|refine zG ?_|(refine LS.nilO ?_;intro nq hnq hltq;try refine zU ?_)|(refine MS.new ?_;intro bq hbq hbqf;try refine zU ?_)|(refine MS.nil ?_;intro nq hnq hltq;have hlq:=hltq _ _ (Hp.get_eq _ _ _);clear hltq;try refine zU ?_)|(refine LS.nilQ ?_;try with_reducible intro nq hnq;try refine zU ?_))
      exact ⟨by omega, by (repeat first | exact trivial | refine And.intro rfl ?_), Drops.refl _ _, ⟨fun j hj => if e : j = i then by subst e; exact h3 else hJ.out j (by omega)⟩⟩
    · rw [show (v i == 0) = false by simpa using h3]
      (repeat first|refine zG ?_|(refine LS.nilO ?_;intro nq hnq hltq;try refine zU ?_)|(refine MS.new ?_;intro bq hbq hbqf;try refine zU ?_)|(refine MS.nil ?_;intro nq hnq hltq;have hlq:=hltq _ _ (Hp.get_eq _ _ _);clear hltq;try refine zU ?_)|(refine LS.nilQ ?_;try with_reducible intro nq hnq;try refine zU ?_))
      exact ⟨i64 i, H, rfl, by exact zD, by rw [fsn_eq h2 hJ.out h3], rfl⟩
  · obtain rfl : i = 8 := by omega
    rw [show decide (((8 : Nat) : Int) < 8) = false by decide]
    (repeat first|refine zG ?_|(refine LS.nilO ?_;intro nq hnq hltq;try refine zU ?_)|(refine MS.new ?_;intro bq hbq hbqf;try refine zU ?_)|(refine MS.nil ?_;intro nq hnq hltq;have hlq:=hltq _ _ (Hp.get_eq _ _ _);clear hltq;try refine zU ?_)|(refine LS.nilQ ?_;try with_reducible intro nq hnq;try refine zU ?_))
    exact ⟨i64 8, H, rfl, by exact zD, by rw [fsn_all hJ.out]; rfl, rfl⟩

/-- spec.l01Left -/
def ir11 : Cd := (.seq (.reg [⟨some 2,none,.box 35 (.t 0)⟩,⟨some 3,none,.box 27 (.t 1)⟩,⟨some 4,none,.new 31 [(64,(.int .u8 0))]⟩]) (.seq (.reg [⟨some 7,none,.build 64 [(64,(.int .u8 0))] []⟩,⟨some 5,none,.new 31 [(64,(.int .u8 0))]⟩,⟨none,none,.st 64 (.t 5) (.t 7)⟩]) (.seq (.seq (.reg [⟨some 6,none,.mov (.c (.int .i64 0))⟩]) (.block 0 (.loop (.seq (.seq (.reg [⟨some 8,none,.mov (.t 6)⟩,⟨some 9,none,.fa 1 (.t 2)⟩,⟨some 10,none,.ld none (.t 9)⟩,⟨some 11,none,.bin .lss (.t 8) (.t 10)⟩]) (.cond (.t 11) .skip (.exit 0))) (.seq (.block 1 (.drwo true [7] [0,1,2,3,4,5,6,7] [⟨some 14,none,.mov (.t 6)⟩,⟨some 15,none,.ld (some 522) (.t 2)⟩,⟨some 16,none,.ld (some 8) (.t 3)⟩,⟨some 17,none,.mov (.t 6)⟩,⟨some 18,none,.call 27 [(.t 17)]⟩,⟨some 19,none,.call 12 [(.t 15),(.t 16),(.t 18)]⟩,⟨some 20,none,.ia 8 8 (.t 5) (.t 14)⟩,⟨none,none,.st 8 (.t 20) (.t 19)⟩])) (.reg [⟨some 12,none,.mov (.t 6)⟩,⟨some 13,none,.bin .add (.t 12) (.c (.int .i64 1))⟩,⟨some 6,none,.mov (.t 13)⟩])))))) (.seq (.reg [⟨some 21,none,.ld (some 64) (.t 5)⟩,⟨none,none,.st 64 (.t 4) (.t 21)⟩]) .ret))))
set_option maxRecDepth 100000 in
theorem tr11 : trFn Try.prog Try.f11 = some (22, ir11, [.cell (some 64) 4]) := by kernel_rfl

theorem spec_l01Left (p : Int) (a : Nat) (m v : Nat → Int) (K : Nat → SV) (H : Hp) (n : Nat) (hp : 2 ≤ p ∧ p ≤ 31) (ha : a ≤ 8) (h0 : K 0 = .int .i64 p) (h1 : K 1 = .int .i64 a)
    (hK : ∀ q, q < 512 → K (10 + q) = .int .u8 (m q)) (hm : isBy 512 m) (hv : isBy 8 v) :
    FnS Try.prog 11 [.arr 522 K, .arr 8 (bys v)] H n (fun r H' _ => r = .arr 64 (bys (lft p m v a)) ∧ H' = H) := by
  refine FnS.of_body Try.func11 tr11 (by simp) (fun hf => ?_)
  dsimp only [argEnv]
  unfold ir11
  (repeat first|refine zG ?_|(refine LS.nilO ?_;intro nq hnq hltq;try refine zU ?_)|(refine MS.new ?_;intro bq hbq hbqf;try refine zU ?_)|(refine MS.nil ?_;intro nq hnq hltq;have hlq:=hltq _ _ (Hp.get_eq _ _ _);clear hltq;try refine zU ?_)|(refine LS.nilQ ?_;try with_reducible intro nq hnq;try refine zU ?_))
  refine CS.iter a (fun i => [(6, i64 i), (2, ptr n 0), (3, ptr (n + 1) 0), (4, ptr (n + 2) 0), (5, ptr (n + 3) 0)])
    (fun i => (n + 3, ⟨64, bys (rowsTo (fun _ => 0) (lfm p m v a) i), 31⟩) :: (n + 2, ⟨64, bys (fun _ => 0), 31⟩) :: (n + 1, ⟨8, bys v, 27⟩) :: (n, ⟨522, K, 35⟩) :: H) (fun _ => True) (by (repeat first | exact trivial | refine And.intro rfl ?_))
    (Drops.keepc rfl rfl (fun _ _ => by rw [rowsTo_zero]; rfl) (Drops.keepc rfl rfl (fun _ _ => rfl) (Drops.refl _ _))) trivial ?_
  intro i n2 hi hn _
  (repeat first|refine zG ?_|(refine LS.nilO ?_;intro nq hnq hltq;try refine zU ?_)|(refine MS.new ?_;intro bq hbq hbqf;try refine zU ?_)|(refine MS.nil ?_;intro nq hnq hltq;have hlq:=hltq _ _ (Hp.get_eq _ _ _);clear hltq;try refine zU ?_)|(refine LS.nilQ ?_;try with_reducible intro nq hnq;try refine zU ?_))
  refine zI ?_ ?_<;>intro h2
  · (repeat first|refine zG ?_|(refine LS.nilO ?_;intro nq hnq hltq;try refine zU ?_)|(refine MS.new ?_;intro bq hbq hbqf;try refine zU ?_)|(refine MS.nil ?_;intro nq hnq hltq;have hlq:=hltq _ _ (Hp.get_eq _ _ _);clear hltq;try refine zU ?_)|(refine LS.nilQ ?_;try with_reducible intro nq hnq;try refine zU ?_))
    refine CS.tailLo _ (List.Mem.head _) ?_; dsimp only [List.take, List.drop]
    (repeat first|refine zG ?_|(refine LS.nilO ?_;intro nq hnq hltq;try refine zU ?_)|(refine MS.new ?_;intro bq hbq hbqf;try refine zU ?_)|(refine MS.nil ?_;intro nq hnq hltq;have hlq:=hltq _ _ (Hp.get_eq _ _ _);clear hltq;try refine zU ?_)|(refine LS.nilQ ?_;try with_reducible intro nq hnq;try refine zU ?_))
    refine LS.callQ (.arr 8 (bys (bas i))) rfl (fun n' hn' => spec_l01Basis i _ _ (by omega)) ?_
    (repeat first|refine zG ?_|(refine LS.nilO ?_;intro nq hnq hltq;try refine zU ?_)|(refine MS.new ?_;intro bq hbq hbqf;try refine zU ?_)|(refine MS.nil ?_;intro nq hnq hltq;have hlq:=hltq _ _ (Hp.get_eq _ _ _);clear hltq;try refine zU ?_)|(refine LS.nilQ ?_;try with_reducible intro nq hnq;try refine zU ?_))
    refine LS.callQ (.arr 8 (bys (pr p m v (bas i) a))) rfl (fun n' hn' => spec_l01Times p a m v (bas i) K _ _ hp ha h0 h1 hK hm hv (bas_by _ _)) ?_
    (repeat first|refine zG ?_|(refine LS.nilO ?_;intro nq hnq hltq;try refine zU ?_)|(refine MS.new ?_;intro bq hbq hbqf;try refine zU ?_)|(refine MS.nil ?_;intro nq hnq hltq;have hlq:=hltq _ _ (Hp.get_eq _ _ _);clear hltq;try refine zU ?_)|(refine LS.nilQ ?_;try with_reducible intro nq hnq;try refine zU ?_))
    exact ⟨by omega, by (repeat first | exact trivial | refine And.intro rfl ?_), Drops.keepc rfl rfl (fun q hq => rowsTo_step (fun y hy => lfm_at _ _ _ _ _ _ hy) q) (Drops.refl _ _), trivial⟩
  · obtain rfl : i = a := by omega
    (repeat first|refine zG ?_|(refine LS.nilO ?_;intro nq hnq hltq;try refine zU ?_)|(refine MS.new ?_;intro bq hbq hbqf;try refine zU ?_)|(refine MS.nil ?_;intro nq hnq hltq;have hlq:=hltq _ _ (Hp.get_eq _ _ _);clear hltq;try refine zU ?_)|(refine LS.nilQ ?_;try with_reducible intro nq hnq;try refine zU ?_))
    exact ⟨.arr 64 (bys (lft p m v i)), H, conc_arr (fun q hq => by first | rfl | (simp only [Nat.zero_add]; done) | (simp only [Nat.zero_add]; rfl)), by exact zD, rfl, rfl⟩

end Go.Proofs.Ytdellpnmbgjofaa
