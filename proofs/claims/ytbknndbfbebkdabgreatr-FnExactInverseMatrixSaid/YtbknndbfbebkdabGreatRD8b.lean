/- Contracts of the program's functions. -/
import Derived.Test.YtbknndbfbebkdabGreatRR
import Derived.Test.YtbknndbfbebkdabGreatRLW
import Derived.Test.YtbknndbfbebkdabGreatRD7a
import Derived.Test.YtbknndbfbebkdabGreatRD7b
namespace Go.Proofs.YtbknndbfbebkdabGreatR
open Go.V
set_option linter.unusedSimpArgs false
set_option linter.unusedVariables false
set_option maxHeartbeats 4000000
/-- laws.FnExactInverseMatrix -/
def ir3 : Cd := (.seq (.reg [⟨some 2,none,.box 26 (.t 0)⟩,⟨some 3,none,.box 23 (.t 1)⟩,⟨some 4,none,.mov (.c (.bool false))⟩]) (.seq (.mix [⟨some 10,none,.ld (some 1106) (.t 2)⟩,⟨some 11,none,.call 8 [(.t 10)]⟩,⟨some 12,none,.ld (some 64) (.t 3)⟩,⟨some 13,none,.call 9 [(.t 12)]⟩,⟨some 14,none,.call 7 [(.t 11),(.t 13)]⟩,⟨some 9,none,.mov (.t 14)⟩,⟨some 15,none,.ex (.t 9) 0⟩,⟨some 16,none,.ex (.t 9) 1⟩] [⟨some 5,none,.new 29 [(64,(.int .u8 0))]⟩,⟨none,none,.st 64 (.t 5) (.t 15)⟩,⟨some 6,none,.mov (.t 16)⟩]) (.seq (.mix [⟨some 18,none,.ld (some 1106) (.t 2)⟩,⟨some 19,none,.call 8 [(.t 18)]⟩,⟨some 20,none,.ld (some 64) (.t 3)⟩,⟨some 21,none,.call 9 [(.t 20)]⟩,⟨some 22,none,.call 10 [(.t 19),(.t 21)]⟩,⟨some 17,none,.mov (.t 22)⟩,⟨some 23,none,.ex (.t 17) 0⟩,⟨some 24,none,.ex (.t 17) 1⟩] [⟨some 7,none,.new 29 [(64,(.int .u8 0))]⟩,⟨none,none,.st 64 (.t 7) (.t 23)⟩,⟨some 8,none,.mov (.t 24)⟩]) (.seq (.seq (.reg [⟨some 25,none,.ld (some 64) (.t 7)⟩,⟨some 26,none,.ld (some 64) (.t 5)⟩,⟨some 27,none,.call 11 [(.t 25),(.t 26)]⟩,⟨some 28,none,.un .not (.t 27)⟩,⟨some 29,none,.mov (.t 28)⟩,⟨some 30,(some (29,false)),.mov (.t 8)⟩,⟨some 31,(some (29,false)),.mov (.t 6)⟩,⟨some 32,(some (29,false)),.bin .neq (.t 30) (.t 31)⟩,⟨some 33,none,.pick (.t 29) (.c (.bool true)) (.t 32)⟩]) (.cond (.t 33) (.seq (.reg [⟨some 4,none,.mov (.c (.bool false))⟩]) .ret) .skip)) (.seq (.reg [⟨some 4,none,.mov (.c (.bool true))⟩]) .ret)))))
set_option maxRecDepth 100000 in
theorem tr3 : trFn Tryz.prog Tryz.f3 = some (34, ir3, [.tmp 4]) := by kernel_rfl
theorem law_FnExactInverseMatrix (z : Nat → Int) (w : ∀ i, (Lit.int (hopfKs.getD i .u8) (z i)).wf = true) (z1 : Nat → Int) (w1 : ∀ i, (Lit.int ((List.replicate 64 .u8 : List IntKind).getD i .u8) (z1 i)).wf = true) (n : Nat) :
    FnS Tryz.prog 3 [.arr 1106 fun i => .int (hopfKs.getD i .u8) (z i), .arr 64 fun i => .int ((List.replicate 64 .u8 : List IntKind).getD i .u8) (z1 i)] [] n (fun r H' _ => r = bl true ∧ H' = []) := by
  have hK := hOf_at z
  have hB := hOf_by w
  generalize hOf z = h at hK hB
  generalize (fun i => SV.int (hopfKs.getD i .u8) (z i)) = K at hK ⊢
  simp only [flat_bys]
  refine FnS.of_body Tryz.func3 tr3 (by simp) (fun hf => ?_)
  dsimp only [argEnv]
  unfold ir3
  (repeat first|refine zG ?_|(refine LS.nilO ?_;intro nq hnq hltq;try refine zU ?_)|(refine MS.new ?_;intro bq hbq hbqf;try refine zU ?_)|(refine MS.nil ?_;intro nq hnq hltq;have hlq:=hltq _ _ (Hp.get_eq _ _ _);clear hltq;try refine zU ?_)|(refine LS.nilQ ?_;try with_reducible intro nq hnq;try refine zU ?_))
  refine LS.callQ (.arr 1106 K) rfl (fun n' hn' => laws_toHopf h K _ _ hK) ?_
  (repeat first|refine zG ?_|(refine LS.nilO ?_;intro nq hnq hltq;try refine zU ?_)|(refine MS.new ?_;intro bq hbq hbqf;try refine zU ?_)|(refine MS.nil ?_;intro nq hnq hltq;have hlq:=hltq _ _ (Hp.get_eq _ _ _);clear hltq;try refine zU ?_)|(refine LS.nilQ ?_;try with_reducible intro nq hnq;try refine zU ?_))
  refine LS.callQ (.arr 64 (bys z1)) rfl (fun n' hn' => laws_toLinear z1 _ _) ?_
  (repeat first|refine zG ?_|(refine LS.nilO ?_;intro nq hnq hltq;try refine zU ?_)|(refine MS.new ?_;intro bq hbq hbqf;try refine zU ?_)|(refine MS.nil ?_;intro nq hnq hltq;have hlq:=hltq _ _ (Hp.get_eq _ _ _);clear hltq;try refine zU ?_)|(refine LS.nilQ ?_;try with_reducible intro nq hnq;try refine zU ?_))
  refine LS.callQ (.tup [.arr 64 (bys (val (mok h 1 (fun _ => z1) ∧ cnd h h.N z1 = 0) (und h.p h.s z1 h.N))), i64 (sc5 (mok h 1 (fun _ => z1)) (cnd h h.N z1 = 0))]) rfl (fun n' hn' => spec_InverseMatrix h z1 K _ _ hK hB (flat_by w1)) ?_
  (repeat first|refine zG ?_|(refine LS.nilO ?_;intro nq hnq hltq;try refine zU ?_)|(refine MS.new ?_;intro bq hbq hbqf;try refine zU ?_)|(refine MS.nil ?_;intro nq hnq hltq;have hlq:=hltq _ _ (Hp.get_eq _ _ _);clear hltq;try refine zU ?_)|(refine LS.nilQ ?_;try with_reducible intro nq hnq;try refine zU ?_))
  refine LS.callQ (.arr 1106 K) rfl (fun n' hn' => laws_toHopf h K _ _ hK) ?_
  (repeat first|refine zG ?_|(refine LS.nilO ?_;intro nq hnq hltq;try refine zU ?_)|(refine MS.new ?_;intro bq hbq hbqf;try refine zU ?_)|(refine MS.nil ?_;intro nq hnq hltq;have hlq:=hltq _ _ (Hp.get_eq _ _ _);clear hltq;try refine zU ?_)|(refine LS.nilQ ?_;try with_reducible intro nq hnq;try refine zU ?_))
  refine LS.callQ (.arr 64 (bys z1)) rfl (fun n' hn' => laws_toLinear z1 _ _) ?_
  (repeat first|refine zG ?_|(refine LS.nilO ?_;intro nq hnq hltq;try refine zU ?_)|(refine MS.new ?_;intro bq hbq hbqf;try refine zU ?_)|(refine MS.nil ?_;intro nq hnq hltq;have hlq:=hltq _ _ (Hp.get_eq _ _ _);clear hltq;try refine zU ?_)|(refine LS.nilQ ?_;try with_reducible intro nq hnq;try refine zU ?_))
  refine LS.callQ (.tup [.arr 64 (bys (val (mok h 1 (fun _ => z1) ∧ cnd h h.N z1 = 0) (und h.p h.s z1 h.N))), i64 (sc5 (mok h 1 (fun _ => z1)) (cnd h h.N z1 = 0))]) rfl (fun n' hn' => impl_InverseMatrix h z1 K _ _ hK hB (flat_by w1)) ?_
  (repeat first|refine zG ?_|(refine LS.nilO ?_;intro nq hnq hltq;try refine zU ?_)|(refine MS.new ?_;intro bq hbq hbqf;try refine zU ?_)|(refine MS.nil ?_;intro nq hnq hltq;have hlq:=hltq _ _ (Hp.get_eq _ _ _);clear hltq;try refine zU ?_)|(refine LS.nilQ ?_;try with_reducible intro nq hnq;try refine zU ?_))
  refine RS.call rfl ((laws_eqLinear _ _ _ _).mono ?_)
  rintro r H' n6 hn6 ⟨rfl, rfl⟩
  rw [tb_true (fun _ _ => rfl)]
  (repeat first|refine zG ?_|(refine LS.nilO ?_;intro nq hnq hltq;try refine zU ?_)|(refine MS.new ?_;intro bq hbq hbqf;try refine zU ?_)|(refine MS.nil ?_;intro nq hnq hltq;have hlq:=hltq _ _ (Hp.get_eq _ _ _);clear hltq;try refine zU ?_)|(refine LS.nilQ ?_;try with_reducible intro nq hnq;try refine zU ?_))
  simp only [bne_self_eq_false]
  (repeat first|refine zG ?_|(refine LS.nilO ?_;intro nq hnq hltq;try refine zU ?_)|(refine MS.new ?_;intro bq hbq hbqf;try refine zU ?_)|(refine MS.nil ?_;intro nq hnq hltq;have hlq:=hltq _ _ (Hp.get_eq _ _ _);clear hltq;try refine zU ?_)|(refine LS.nilQ ?_;try with_reducible intro nq hnq;try refine zU ?_))
  exact ⟨_, [], rfl, by exact zD, rfl, rfl⟩
end Go.Proofs.YtbknndbfbebkdabGreatR
