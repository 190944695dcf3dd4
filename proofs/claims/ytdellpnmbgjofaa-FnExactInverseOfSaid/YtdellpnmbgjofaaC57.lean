/- An algebra from a law's argument. -/
import Derived.Test.YtdellpnmbgjofaaC56
namespace Go.Proofs.Ytdellpnmbgjofaa
open Go.V
set_option linter.unusedSimpArgs false
set_option linter.unusedVariables false
set_option maxHeartbeats 4000000

/-- laws.toAlgebra -/
def ir5 : Cd := (.seq (.reg [⟨some 1,none,.box 26 (.t 0)⟩,⟨some 2,none,.new 35 [(2,(.int .i64 0)),(520,(.int .u8 0))]⟩]) (.seq (.reg [⟨some 3,none,.new 35 [(2,(.int .i64 0)),(520,(.int .u8 0))]⟩]) (.seq (.reg [⟨some 4,none,.fa 0 (.t 1)⟩,⟨some 5,none,.ld none (.t 4)⟩,⟨some 6,none,.fa 0 (.t 3)⟩,⟨none,none,.st 1 (.t 6) (.t 5)⟩]) (.seq (.reg [⟨some 7,none,.fa 1 (.t 1)⟩,⟨some 8,none,.ld none (.t 7)⟩,⟨some 9,none,.fa 1 (.t 3)⟩,⟨none,none,.st 1 (.t 9) (.t 8)⟩]) (.seq (.reg [⟨some 10,none,.fa 2 (.t 1)⟩,⟨some 11,none,.ld (some 8) (.t 10)⟩,⟨some 12,none,.call 6 [(.t 11)]⟩,⟨some 13,none,.fa 2 (.t 3)⟩,⟨none,none,.st 8 (.t 13) (.t 12)⟩]) (.seq (.reg [⟨some 14,none,.fa 10 (.t 1)⟩,⟨some 15,none,.ld (some 512) (.t 14)⟩,⟨some 16,none,.call 13 [(.t 15)]⟩,⟨some 17,none,.fa 10 (.t 3)⟩,⟨none,none,.st 512 (.t 17) (.t 16)⟩]) (.seq (.reg [⟨some 18,none,.ld (some 522) (.t 3)⟩,⟨none,none,.st 522 (.t 2) (.t 18)⟩]) .ret)))))))
set_option maxRecDepth 100000 in
theorem tr5 : trFn Try.prog Try.f5 = some (19, ir5, [.cell (some 522) 2]) := by kernel_rfl

theorem laws_toAlgebra (p n' : Int) (u m : Nat → Int) (K : Nat → SV) (H : Hp) (n : Nat) (k0 : K 0 = .int .i64 p) (k1 : K 1 = .int .i64 n') (k2 : ∀ q, q < 8 → K (2 + q) = .int .u8 (u q)) (k3 : ∀ q, q < 512 → K (10 + q) = .int .u8 (m q)) :
    FnS Try.prog 5 [.arr 522 K] H n (fun r H' _ => r = .arr 522 K ∧ H' = H) := by
  refine FnS.of_body Try.func5 tr5 (by simp) (fun hf => ?_)
  dsimp only [argEnv]
  unfold ir5
  (repeat first|refine zG ?_|(refine LS.nilO ?_;intro nq hnq hltq;try refine zU ?_)|(refine MS.new ?_;intro bq hbq hbqf;try refine zU ?_)|(refine MS.nil ?_;intro nq hnq hltq;have hlq:=hltq _ _ (Hp.get_eq _ _ _);clear hltq;try refine zU ?_)|(refine LS.nilQ ?_;try with_reducible intro nq hnq;try refine zU ?_))
  refine RS.call rfl ((laws_toVector u _ _).mono ?_)
  rintro r H' n2 hn2 ⟨rfl, rfl⟩
  (repeat first|refine zG ?_|(refine LS.nilO ?_;intro nq hnq hltq;try refine zU ?_)|(refine MS.new ?_;intro bq hbq hbqf;try refine zU ?_)|(refine MS.nil ?_;intro nq hnq hltq;have hlq:=hltq _ _ (Hp.get_eq _ _ _);clear hltq;try refine zU ?_)|(refine LS.nilQ ?_;try with_reducible intro nq hnq;try refine zU ?_))
  refine RS.call rfl ((laws_toTable m _ _).mono ?_)
  rintro r H' n3 hn3 ⟨rfl, rfl⟩
  (repeat first|refine zG ?_|(refine LS.nilO ?_;intro nq hnq hltq;try refine zU ?_)|(refine MS.new ?_;intro bq hbq hbqf;try refine zU ?_)|(refine MS.nil ?_;intro nq hnq hltq;have hlq:=hltq _ _ (Hp.get_eq _ _ _);clear hltq;try refine zU ?_)|(refine LS.nilQ ?_;try with_reducible intro nq hnq;try refine zU ?_))
  refine ⟨.arr 522 K, H, conc_arr (fun q hq => ?_), by exact zD, rfl, rfl⟩
  simp only [Nat.zero_add, splice, put1]
  by_cases e0 : q < 2
  · rw [if_neg (by omega), if_neg (by omega)]
    by_cases e1 : q = 1
    · subst e1; rw [if_pos rfl]; exact k1.symm
    · have : q = 0 := by omega
      subst this; rw [if_neg (by omega), if_pos rfl]; exact k0.symm
  by_cases e1 : q < 10
  · rw [if_neg (by omega), if_pos (by omega)]
    have := k2 (q - 2) (by omega)
    rw [show 2 + (q - 2) = q by omega] at this
    rw [this]; rfl
  · rw [if_pos (by omega)]
    have := k3 (q - 10) (by omega)
    rw [show 10 + (q - 10) = q by omega] at this
    rw [this]; rfl

end Go.Proofs.Ytdellpnmbgjofaa
