/- Contracts of the program's functions. -/
import Derived.Test.YtbknndbfbebkdaaGreatRR
import Derived.Test.YtbknndbfbebkdaaGreatRLW
import Derived.Test.YtbknndbfbebkdaaGreatRQ6b
import Derived.Test.YtbknndbfbebkdaaGreatRQ7a
import Derived.Test.YtbknndbfbebkdaaGreatRQ7b
namespace Go.Proofs.YtbknndbfbebkdaaGreatR
open Go.V
set_option linter.unusedSimpArgs false
set_option linter.unusedVariables false
set_option maxHeartbeats 4000000
/-- impl.IsTwist -/
def ir11 : Cd := (.seq (.reg [⟨some 2,none,.box 35 (.t 0)⟩,⟨some 3,none,.box 31 (.t 1)⟩,⟨some 4,none,.mov (.c (.bool false))⟩,⟨some 5,none,.mov (.c (.int .i64 0))⟩]) (.seq (.seq (.reg [⟨some 7,none,.bsl 52 1 1 [(1,.nil)] [(0,1,(.t 3))]⟩,⟨some 8,none,.call 25 [(.t 2),(.t 7)]⟩,⟨some 6,none,.mov (.t 8)⟩]) (.seq (.reg [⟨some 9,none,.mov (.t 6)⟩,⟨some 10,none,.bin .neq (.t 9) (.c (.int .i64 0))⟩]) (.cond (.t 10) (.seq (.reg [⟨some 11,none,.mov (.t 6)⟩,⟨some 4,none,.mov (.c (.bool false))⟩,⟨some 5,none,.mov (.t 11)⟩]) .ret) .skip))) (.seq (.reg [⟨some 12,none,.call 26 [(.t 2),(.t 3)]⟩,⟨some 4,none,.mov (.t 12)⟩,⟨some 5,none,.mov (.c (.int .i64 0))⟩]) .ret)))
set_option maxRecDepth 100000 in
theorem tr11 : trFn Tryz.prog Tryz.f11 = some (13, ir11, [.tmp 4, .tmp 5]) := by kernel_rfl
theorem impl_IsTwist (h : HT) (s : Nat → Int) (K : Nat → SV) (H : Hp) (n : Nat) (hK : h.At K) (hB : h.By) (hs : isBy 64 s) :
    FnS Tryz.prog 11 [.arr 1106 K, .arr 64 (bys s)] H n (fun r H' _ => r = .tup [bl (tb (mok h 1 (fun _ => s) ∧ isTw h s)), i64 (cd (mok h 1 (fun _ => s)))] ∧ H' = H) := by
  have hk0 := hK.p
  have hk1 := hK.n
  refine FnS.of_body Tryz.func11 tr11 (by simp) (fun hf => ?_)
  dsimp only [argEnv]
  unfold ir11
  (repeat first|refine zG ?_|(refine LS.nilO ?_;intro nq hnq hltq;try refine zU ?_)|(refine MS.new ?_;intro bq hbq hbqf;try refine zU ?_)|(refine MS.nil ?_;intro nq hnq hltq;have hlq:=hltq _ _ (Hp.get_eq _ _ _);clear hltq;try refine zU ?_)|(refine LS.nilQ ?_;try with_reducible intro nq hnq;try refine zU ?_))
  refine RS.call rfl ((impl_matricesCode h n (.slc (n + 2) 0 1 1) 1 (by omega) (fun _ => s) ⟨1106, K, 35⟩ _ _ (by exact zH) rfl hK hB ⟨n + 2, 1, _, rfl, by exact zH, (by simp), fun i hi => ⟨n + 1, ⟨64, bys s, 31⟩, by (obtain rfl : i = 0 := by omega); rfl, by exact zH, (by simp), fun q hq => by rw [Nat.zero_add]; rfl⟩⟩ (fun _ _ => hs)).mono ?_)
  rintro r H' n2 hn2 ⟨rfl, rfl⟩
  (repeat first|refine zG ?_|(refine LS.nilO ?_;intro nq hnq hltq;try refine zU ?_)|(refine MS.new ?_;intro bq hbq hbqf;try refine zU ?_)|(refine MS.nil ?_;intro nq hnq hltq;have hlq:=hltq _ _ (Hp.get_eq _ _ _);clear hltq;try refine zU ?_)|(refine LS.nilQ ?_;try with_reducible intro nq hnq;try refine zU ?_))
  refine zI ?_ ?_<;>intro h1
  · have h3 : ¬mok h 1 (fun _ => s) := fun q => h1 (cd_zero.2 q)
    (repeat first|refine zG ?_|(refine LS.nilO ?_;intro nq hnq hltq;try refine zU ?_)|(refine MS.new ?_;intro bq hbq hbqf;try refine zU ?_)|(refine MS.nil ?_;intro nq hnq hltq;have hlq:=hltq _ _ (Hp.get_eq _ _ _);clear hltq;try refine zU ?_)|(refine LS.nilQ ?_;try with_reducible intro nq hnq;try refine zU ?_))
    exact ⟨.tup [bl (tb (mok h 1 (fun _ => s) ∧ isTw h s)), i64 (cd (mok h 1 (fun _ => s)))], H, conc_tup2 (by rw [tb_false (fun q => h3 q.1)]) rfl, by exact zD, rfl, rfl⟩
  · have h3 : mok h 1 (fun _ => s) := cd_zero.1 h1
    obtain ⟨a, hS⟩ := isHopf.hs h3.1
    have hN := hS.N
    subst hN
    have hz0 := h3.lz hS (show 0 < 1 by omega)
    rw [hS.hn] at hk1
    (repeat first|refine zG ?_|(refine LS.nilO ?_;intro nq hnq hltq;try refine zU ?_)|(refine MS.new ?_;intro bq hbq hbqf;try refine zU ?_)|(refine MS.nil ?_;intro nq hnq hltq;have hlq:=hltq _ _ (Hp.get_eq _ _ _);clear hltq;try refine zU ?_)|(refine LS.nilQ ?_;try with_reducible intro nq hnq;try refine zU ?_))
    refine RS.call rfl ((Hopf_isTwist h h.N s n (n + 1) 0 ⟨1106, K, 35⟩ ⟨64, bys s, 31⟩ _ _ hS (by exact zH) rfl hK hB (by exact zH) (by simp) (fun q hq => by rw [Nat.zero_add]; rfl) hs hz0).mono ?_)
    rintro r H' n3 hn3 ⟨rfl, rfl⟩
    (repeat first|refine zG ?_|(refine LS.nilO ?_;intro nq hnq hltq;try refine zU ?_)|(refine MS.new ?_;intro bq hbq hbqf;try refine zU ?_)|(refine MS.nil ?_;intro nq hnq hltq;have hlq:=hltq _ _ (Hp.get_eq _ _ _);clear hltq;try refine zU ?_)|(refine LS.nilQ ?_;try with_reducible intro nq hnq;try refine zU ?_))
    exact ⟨.tup [bl (tb (mok h 1 (fun _ => s) ∧ isTw h s)), i64 (cd (mok h 1 (fun _ => s)))], H, conc_tup2 (congrArg AV.conc (congrArg bl (tb_iff ⟨fun q => ⟨h3, q⟩, fun q => q.2⟩))) (by rw [cd_true h3]), by exact zD, rfl, rfl⟩
/-- laws.FnExactIsTwist -/
def ir3 : Cd := (.seq (.reg [⟨some 2,none,.box 26 (.t 0)⟩,⟨some 3,none,.box 23 (.t 1)⟩,⟨some 4,none,.mov (.c (.bool false))⟩]) (.seq (.drwo true [] [0,2,1,3,4,5,6,7,8,9] [⟨some 10,none,.ld (some 1106) (.t 2)⟩,⟨some 11,none,.call 9 [(.t 10)]⟩,⟨some 12,none,.ld (some 64) (.t 3)⟩,⟨some 13,none,.call 10 [(.t 12)]⟩,⟨some 14,none,.call 8 [(.t 11),(.t 13)]⟩,⟨some 9,none,.mov (.t 14)⟩,⟨some 15,none,.ex (.t 9) 0⟩,⟨some 16,none,.ex (.t 9) 1⟩,⟨some 5,none,.mov (.t 15)⟩,⟨some 6,none,.mov (.t 16)⟩]) (.seq (.drwo true [] [0,2,1,3,4,5,6,7,8,9] [⟨some 18,none,.ld (some 1106) (.t 2)⟩,⟨some 19,none,.call 9 [(.t 18)]⟩,⟨some 20,none,.ld (some 64) (.t 3)⟩,⟨some 21,none,.call 10 [(.t 20)]⟩,⟨some 22,none,.call 11 [(.t 19),(.t 21)]⟩,⟨some 17,none,.mov (.t 22)⟩,⟨some 23,none,.ex (.t 17) 0⟩,⟨some 24,none,.ex (.t 17) 1⟩,⟨some 7,none,.mov (.t 23)⟩,⟨some 8,none,.mov (.t 24)⟩]) (.seq (.seq (.reg [⟨some 25,none,.mov (.t 7)⟩,⟨some 26,none,.mov (.t 5)⟩,⟨some 27,none,.beq true (.t 25) (.t 26)⟩,⟨some 28,none,.mov (.t 27)⟩,⟨some 29,(some (28,false)),.mov (.t 8)⟩,⟨some 30,(some (28,false)),.mov (.t 6)⟩,⟨some 31,(some (28,false)),.bin .neq (.t 29) (.t 30)⟩,⟨some 32,none,.pick (.t 28) (.c (.bool true)) (.t 31)⟩]) (.cond (.t 32) (.seq (.reg [⟨some 4,none,.mov (.c (.bool false))⟩]) .ret) .skip)) (.seq (.reg [⟨some 4,none,.mov (.c (.bool true))⟩]) .ret)))))
set_option maxRecDepth 100000 in
theorem tr3 : trFn Tryz.prog Tryz.f3 = some (33, ir3, [.tmp 4]) := by kernel_rfl
theorem law_FnExactIsTwist (z : Nat → Int) (w : ∀ i, (Lit.int (hopfKs.getD i .u8) (z i)).wf = true) (z1 : Nat → Int) (w1 : ∀ i, (Lit.int ((List.replicate 64 .u8 : List IntKind).getD i .u8) (z1 i)).wf = true) (n : Nat) :
    FnS Tryz.prog 3 [.arr 1106 fun i => .int (hopfKs.getD i .u8) (z i), .arr 64 fun i => .int ((List.replicate 64 .u8 : List IntKind).getD i .u8) (z1 i)] [] n (fun r H' _ => r = bl true ∧ H' = []) := by
  have hK := hOf_at z
  have hB := hOf_by w
  generalize hOf z = h at hK hB
  generalize (fun i => SV.int (hopfKs.getD i .u8) (z i)) = K at hK ⊢
  simp only [flat_bys]
  refine FnS.of_body Tryz.func3 tr3 (by simp) (fun hf => ?_)
  dsimp only [argEnv]
  unfold ir3
  (repeat first|refine zG ?_|(refine LS.nilO ?_;intro nq hnq hltq;try refine zU ?_)|(refine MS.new ?_;intro bq hbq hbqf;try refine zU ?_)|(refine MS.nil ?_;intro nq hnq hltq;have hlq:=hltq _ _ (Hp.get_eq _ _ _);clear hltq;try refine zU ?_)|(refine LS.nilQ ?_;try with_reducible intro nq hnq;try refine zU ?_))
  refine CS.quietLo ?_
  (repeat first|refine zG ?_|(refine LS.nilO ?_;intro nq hnq hltq;try refine zU ?_)|(refine MS.new ?_;intro bq hbq hbqf;try refine zU ?_)|(refine MS.nil ?_;intro nq hnq hltq;have hlq:=hltq _ _ (Hp.get_eq _ _ _);clear hltq;try refine zU ?_)|(refine LS.nilQ ?_;try with_reducible intro nq hnq;try refine zU ?_))
  refine LS.callQ (.arr 1106 K) rfl (fun n' hn' => laws_toHopf h K _ _ hK) ?_
  (repeat first|refine zG ?_|(refine LS.nilO ?_;intro nq hnq hltq;try refine zU ?_)|(refine MS.new ?_;intro bq hbq hbqf;try refine zU ?_)|(refine MS.nil ?_;intro nq hnq hltq;have hlq:=hltq _ _ (Hp.get_eq _ _ _);clear hltq;try refine zU ?_)|(refine LS.nilQ ?_;try with_reducible intro nq hnq;try refine zU ?_))
  refine LS.callQ (.arr 64 (bys z1)) rfl (fun n' hn' => laws_toLinear z1 _ _) ?_
  (repeat first|refine zG ?_|(refine LS.nilO ?_;intro nq hnq hltq;try refine zU ?_)|(refine MS.new ?_;intro bq hbq hbqf;try refine zU ?_)|(refine MS.nil ?_;intro nq hnq hltq;have hlq:=hltq _ _ (Hp.get_eq _ _ _);clear hltq;try refine zU ?_)|(refine LS.nilQ ?_;try with_reducible intro nq hnq;try refine zU ?_))
  refine LS.callQ (.tup [bl (tb (mok h 1 (fun _ => z1) ∧ isTw h z1)), i64 (cd (mok h 1 (fun _ => z1)))]) rfl (fun n' hn' => spec_IsTwist h z1 K _ _ hK hB (flat_by w1)) ?_
  (repeat first|refine zG ?_|(refine LS.nilO ?_;intro nq hnq hltq;try refine zU ?_)|(refine MS.new ?_;intro bq hbq hbqf;try refine zU ?_)|(refine MS.nil ?_;intro nq hnq hltq;have hlq:=hltq _ _ (Hp.get_eq _ _ _);clear hltq;try refine zU ?_)|(refine LS.nilQ ?_;try with_reducible intro nq hnq;try refine zU ?_))
  refine CS.quietLo ?_
  (repeat first|refine zG ?_|(refine LS.nilO ?_;intro nq hnq hltq;try refine zU ?_)|(refine MS.new ?_;intro bq hbq hbqf;try refine zU ?_)|(refine MS.nil ?_;intro nq hnq hltq;have hlq:=hltq _ _ (Hp.get_eq _ _ _);clear hltq;try refine zU ?_)|(refine LS.nilQ ?_;try with_reducible intro nq hnq;try refine zU ?_))
  refine LS.callQ (.arr 1106 K) rfl (fun n' hn' => laws_toHopf h K _ _ hK) ?_
  (repeat first|refine zG ?_|(refine LS.nilO ?_;intro nq hnq hltq;try refine zU ?_)|(refine MS.new ?_;intro bq hbq hbqf;try refine zU ?_)|(refine MS.nil ?_;intro nq hnq hltq;have hlq:=hltq _ _ (Hp.get_eq _ _ _);clear hltq;try refine zU ?_)|(refine LS.nilQ ?_;try with_reducible intro nq hnq;try refine zU ?_))
  refine LS.callQ (.arr 64 (bys z1)) rfl (fun n' hn' => laws_toLinear z1 _ _) ?_
  (repeat first|refine zG ?_|(refine LS.nilO ?_;intro nq hnq hltq;try refine zU ?_)|(refine MS.new ?_;intro bq hbq hbqf;try refine zU ?_)|(refine MS.nil ?_;intro nq hnq hltq;have hlq:=hltq _ _ (Hp.get_eq _ _ _);clear hltq;try refine zU ?_)|(refine LS.nilQ ?_;try with_reducible intro nq hnq;try refine zU ?_))
  refine LS.callQ (.tup [bl (tb (mok h 1 (fun _ => z1) ∧ isTw h z1)), i64 (cd (mok h 1 (fun _ => z1)))]) rfl (fun n' hn' => impl_IsTwist h z1 K _ _ hK hB (flat_by w1)) ?_
  (repeat first|refine zG ?_|(refine LS.nilO ?_;intro nq hnq hltq;try refine zU ?_)|(refine MS.new ?_;intro bq hbq hbqf;try refine zU ?_)|(refine MS.nil ?_;intro nq hnq hltq;have hlq:=hltq _ _ (Hp.get_eq _ _ _);clear hltq;try refine zU ?_)|(refine LS.nilQ ?_;try with_reducible intro nq hnq;try refine zU ?_))
  refine RS.beq (by exact rfl) (by exact rfl) ?_
  simp only [beq_self_eq_true, Bool.not_true, ↓reduceIte]
  (repeat first|refine zG ?_|(refine LS.nilO ?_;intro nq hnq hltq;try refine zU ?_)|(refine MS.new ?_;intro bq hbq hbqf;try refine zU ?_)|(refine MS.nil ?_;intro nq hnq hltq;have hlq:=hltq _ _ (Hp.get_eq _ _ _);clear hltq;try refine zU ?_)|(refine LS.nilQ ?_;try with_reducible intro nq hnq;try refine zU ?_))
  simp only [bne_self_eq_false]
  (repeat first|refine zG ?_|(refine LS.nilO ?_;intro nq hnq hltq;try refine zU ?_)|(refine MS.new ?_;intro bq hbq hbqf;try refine zU ?_)|(refine MS.nil ?_;intro nq hnq hltq;have hlq:=hltq _ _ (Hp.get_eq _ _ _);clear hltq;try refine zU ?_)|(refine LS.nilQ ?_;try with_reducible intro nq hnq;try refine zU ?_))
  exact ⟨_, [], rfl, by exact zD, rfl, rfl⟩
end Go.Proofs.YtbknndbfbebkdaaGreatR
