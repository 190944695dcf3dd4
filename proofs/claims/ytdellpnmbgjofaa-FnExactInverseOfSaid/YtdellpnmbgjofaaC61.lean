/- Inverses of vectors: the law. -/
import Derived.Test.YtdellpnmbgjofaaC60
import Derived.Test.YtdellpnmbgjofaaLW
namespace Go.V
set_option linter.unusedSimpArgs false
set_option linter.unusedVariables false
theorem repU_getD (n q : Nat) : (List.replicate n IntKind.u8).getD q .u8 = .u8 := by
  rw [List.getD_eq_getElem?_getD, List.getElem?_replicate]; split <;> rfl
theorem u8_bds {x : Int} (h : (Lit.int .u8 x).wf = true) : 0 ≤ x ∧ x ≤ 255 := by
  simp only [Lit.wf, Bool.and_eq_true, decide_eq_true_eq] at h
  exact h
abbrev algKs : List IntKind := .i64 :: .i64 :: List.replicate 520 .u8
theorem algKs_u8 (q : Nat) : algKs.getD (2 + q) .u8 = .u8 := by
  rw [show 2 + q = q + 1 + 1 by omega]
  show (List.replicate 520 IntKind.u8).getD q .u8 = .u8
  exact repU_getD _ _
theorem algKs_by {z : Nat → Int} (w : ∀ i, (Lit.int (algKs.getD i .u8) (z i)).wf = true) (q : Nat) : 0 ≤ z (2 + q) ∧ z (2 + q) ≤ 255 := by
  have := w (2 + q); rw [algKs_u8] at this; exact u8_bds this
end Go.V
namespace Go.Proofs.Ytdellpnmbgjofaa
open Go.V
set_option linter.unusedSimpArgs false
set_option linter.unusedVariables false
set_option maxHeartbeats 4000000

/-- laws.FnExactInverseOf -/
def ir3 : Cd := (.seq (.reg [⟨some 2,none,.box 26 (.t 0)⟩,⟨some 3,none,.box 22 (.t 1)⟩,⟨some 4,none,.mov (.c (.bool false))⟩]) (.seq (.mix [⟨some 10,none,.ld (some 522) (.t 2)⟩,⟨some 11,none,.call 5 [(.t 10)]⟩,⟨some 12,none,.ld (some 8) (.t 3)⟩,⟨some 13,none,.call 6 [(.t 12)]⟩,⟨some 14,none,.call 4 [(.t 11),(.t 13)]⟩,⟨some 9,none,.mov (.t 14)⟩,⟨some 15,none,.ex (.t 9) 0⟩,⟨some 16,none,.ex (.t 9) 1⟩] [⟨some 5,none,.new 27 [(8,(.int .u8 0))]⟩,⟨none,none,.st 8 (.t 5) (.t 15)⟩,⟨some 6,none,.mov (.t 16)⟩]) (.seq (.mix [⟨some 18,none,.ld (some 522) (.t 2)⟩,⟨some 19,none,.call 5 [(.t 18)]⟩,⟨some 20,none,.ld (some 8) (.t 3)⟩,⟨some 21,none,.call 6 [(.t 20)]⟩,⟨some 22,none,.call 7 [(.t 19),(.t 21)]⟩,⟨some 17,none,.mov (.t 22)⟩,⟨some 23,none,.ex (.t 17) 0⟩,⟨some 24,none,.ex (.t 17) 1⟩] [⟨some 7,none,.new 27 [(8,(.int .u8 0))]⟩,⟨none,none,.st 8 (.t 7) (.t 23)⟩,⟨some 8,none,.mov (.t 24)⟩]) (.seq (.seq (.reg [⟨some 25,none,.ld (some 8) (.t 7)⟩,⟨some 26,none,.ld (some 8) (.t 5)⟩,⟨some 27,none,.call 8 [(.t 25),(.t 26)]⟩,⟨some 28,none,.un .not (.t 27)⟩,⟨some 29,none,.mov (.t 28)⟩,⟨some 30,(some (29,false)),.mov (.t 8)⟩,⟨some 31,(some (29,false)),.mov (.t 6)⟩,⟨some 32,(some (29,false)),.bin .neq (.t 30) (.t 31)⟩,⟨some 33,none,.pick (.t 29) (.c (.bool true)) (.t 32)⟩]) (.cond (.t 33) (.seq (.reg [⟨some 4,none,.mov (.c (.bool false))⟩]) .ret) .skip)) (.seq (.reg [⟨some 4,none,.mov (.c (.bool true))⟩]) .ret)))))
set_option maxRecDepth 100000 in
theorem tr3 : trFn Try.prog Try.f3 = some (34, ir3, [.tmp 4]) := by kernel_rfl

theorem law_FnExactInverseOf (z : Nat → Int) (w : ∀ i, (Lit.int (algKs.getD i .u8) (z i)).wf = true) (z1 : Nat → Int) (w1 : ∀ i, (Lit.int ((List.replicate 8 .u8 : List IntKind).getD i .u8) (z1 i)).wf = true) (n : Nat) :
    FnS Try.prog 3 [.arr 522 fun i => .int (algKs.getD i .u8) (z i), .arr 8 fun i => .int ((List.replicate 8 .u8 : List IntKind).getD i .u8) (z1 i)] [] n (fun r H' _ => r = bl true ∧ H' = []) := by
  have h0 : (fun i => SV.int (algKs.getD i .u8) (z i)) 0 = .int .i64 (z 0) := rfl
  have h1 : (fun i => SV.int (algKs.getD i .u8) (z i)) 1 = .int .i64 (z 1) := rfl
  have hU : ∀ q, q < 8 → (fun i => SV.int (algKs.getD i .u8) (z i)) (2 + q) = .int .u8 ((fun q => z (2 + q)) q) := fun q _ => by
    show SV.int (algKs.getD (2 + q) .u8) _ = _; rw [algKs_u8]
  have hK : ∀ q, q < 512 → (fun i => SV.int (algKs.getD i .u8) (z i)) (10 + q) = .int .u8 ((fun q => z (10 + q)) q) := fun q _ => by
    show SV.int (algKs.getD (10 + q) .u8) _ = _; rw [show 10 + q = 2 + (8 + q) by omega, algKs_u8, show 2 + (8 + q) = 10 + q by omega]
  have hu : isBy 8 (fun q => z (2 + q)) := fun q _ => algKs_by w q
  have hm : isBy 512 (fun q => z (10 + q)) := fun q _ => by
    have := algKs_by w (8 + q); rwa [show 2 + (8 + q) = 10 + q by omega] at this
  generalize (fun q => z (2 + q)) = u at hU hu
  generalize (fun q => z (10 + q)) = m at hK hm
  generalize z 0 = p at h0
  generalize z 1 = n' at h1
  generalize (fun i => SV.int (algKs.getD i .u8) (z i)) = K at h0 h1 hU hK ⊢
  have hv : isBy 8 z1 := fun i _ => by have := w1 i; rw [repU_getD] at this; exact u8_bds this
  have e1 : (fun i => SV.int ((List.replicate 8 IntKind.u8).getD i .u8) (z1 i)) = bys z1 := by funext i; rw [repU_getD]; rfl
  rw [e1]
  obtain ⟨X, hX⟩ : ∃ X, X = ivX (isAlg p n' u m ∧ isVec p n' z1) (ivW p u m z1 n'.toNat) := ⟨_, rfl⟩
  obtain ⟨C, hC⟩ : ∃ C, C = ivC (isAlg p n' u m ∧ isVec p n' z1) (∃ w, isIv p u m z1 n'.toNat w) := ⟨_, rfl⟩
  refine FnS.of_body Try.func3 tr3 (by simp) (fun hf => ?_)
  dsimp only [argEnv]
  unfold ir3
  (repeat first|refine zG ?_|(refine LS.nilO ?_;intro nq hnq hltq;try refine zU ?_)|(refine MS.new ?_;intro bq hbq hbqf;try refine zU ?_)|(refine MS.nil ?_;intro nq hnq hltq;have hlq:=hltq _ _ (Hp.get_eq _ _ _);clear hltq;try refine zU ?_)|(refine LS.nilQ ?_;try with_reducible intro nq hnq;try refine zU ?_))
  refine LS.callQ (.arr 522 K) rfl (fun n2 hn' => laws_toAlgebra p n' u m K _ _ h0 h1 hU hK) ?_
  (repeat first|refine zG ?_|(refine LS.nilO ?_;intro nq hnq hltq;try refine zU ?_)|(refine MS.new ?_;intro bq hbq hbqf;try refine zU ?_)|(refine MS.nil ?_;intro nq hnq hltq;have hlq:=hltq _ _ (Hp.get_eq _ _ _);clear hltq;try refine zU ?_)|(refine LS.nilQ ?_;try with_reducible intro nq hnq;try refine zU ?_))
  refine LS.callQ (.arr 8 (bys z1)) rfl (fun n' hn' => laws_toVector z1 _ _) ?_
  (repeat first|refine zG ?_|(refine LS.nilO ?_;intro nq hnq hltq;try refine zU ?_)|(refine MS.new ?_;intro bq hbq hbqf;try refine zU ?_)|(refine MS.nil ?_;intro nq hnq hltq;have hlq:=hltq _ _ (Hp.get_eq _ _ _);clear hltq;try refine zU ?_)|(refine LS.nilQ ?_;try with_reducible intro nq hnq;try refine zU ?_))
  refine LS.callQ (.tup [.arr 8 (bys X), i64 C]) rfl (fun n2 hn' => by rw [hX, hC]; exact spec_InverseOf p n' u m z1 K _ _ h0 h1 hU hK hu hm hv) ?_
  (repeat first|refine zG ?_|(refine LS.nilO ?_;intro nq hnq hltq;try refine zU ?_)|(refine MS.new ?_;intro bq hbq hbqf;try refine zU ?_)|(refine MS.nil ?_;intro nq hnq hltq;have hlq:=hltq _ _ (Hp.get_eq _ _ _);clear hltq;try refine zU ?_)|(refine LS.nilQ ?_;try with_reducible intro nq hnq;try refine zU ?_))
  refine LS.callQ (.arr 522 K) rfl (fun n2 hn' => laws_toAlgebra p n' u m K _ _ h0 h1 hU hK) ?_
  (repeat first|refine zG ?_|(refine LS.nilO ?_;intro nq hnq hltq;try refine zU ?_)|(refine MS.new ?_;intro bq hbq hbqf;try refine zU ?_)|(refine MS.nil ?_;intro nq hnq hltq;have hlq:=hltq _ _ (Hp.get_eq _ _ _);clear hltq;try refine zU ?_)|(refine LS.nilQ ?_;try with_reducible intro nq hnq;try refine zU ?_))
  refine LS.callQ (.arr 8 (bys z1)) rfl (fun n' hn' => laws_toVector z1 _ _) ?_
  (repeat first|refine zG ?_|(refine LS.nilO ?_;intro nq hnq hltq;try refine zU ?_)|(refine MS.new ?_;intro bq hbq hbqf;try refine zU ?_)|(refine MS.nil ?_;intro nq hnq hltq;have hlq:=hltq _ _ (Hp.get_eq _ _ _);clear hltq;try refine zU ?_)|(refine LS.nilQ ?_;try with_reducible intro nq hnq;try refine zU ?_))
  refine LS.callQ (.tup [.arr 8 (bys X), i64 C]) rfl (fun n2 hn' => by rw [hX, hC]; exact impl_InverseOf p n' u m z1 K _ _ h0 h1 hU hK hu hm hv) ?_
  (repeat first|refine zG ?_|(refine LS.nilO ?_;intro nq hnq hltq;try refine zU ?_)|(refine MS.new ?_;intro bq hbq hbqf;try refine zU ?_)|(refine MS.nil ?_;intro nq hnq hltq;have hlq:=hltq _ _ (Hp.get_eq _ _ _);clear hltq;try refine zU ?_)|(refine LS.nilQ ?_;try with_reducible intro nq hnq;try refine zU ?_))
  refine RS.call rfl ((laws_eqVector _ _ _ _).mono ?_)
  rintro r H' n6 hn6 ⟨rfl, rfl⟩
  rw [tb_true (fun _ _ => rfl)]
  (repeat first|refine zG ?_|(refine LS.nilO ?_;intro nq hnq hltq;try refine zU ?_)|(refine MS.new ?_;intro bq hbq hbqf;try refine zU ?_)|(refine MS.nil ?_;intro nq hnq hltq;have hlq:=hltq _ _ (Hp.get_eq _ _ _);clear hltq;try refine zU ?_)|(refine LS.nilQ ?_;try with_reducible intro nq hnq;try refine zU ?_))
  simp only [bne_self_eq_false]
  (repeat first|refine zG ?_|(refine LS.nilO ?_;intro nq hnq hltq;try refine zU ?_)|(refine MS.new ?_;intro bq hbq hbqf;try refine zU ?_)|(refine MS.nil ?_;intro nq hnq hltq;have hlq:=hltq _ _ (Hp.get_eq _ _ _);clear hltq;try refine zU ?_)|(refine LS.nilQ ?_;try with_reducible intro nq hnq;try refine zU ?_))
  exact ⟨_, [], rfl, by exact zD, rfl, rfl⟩

end Go.Proofs.Ytdellpnmbgjofaa
