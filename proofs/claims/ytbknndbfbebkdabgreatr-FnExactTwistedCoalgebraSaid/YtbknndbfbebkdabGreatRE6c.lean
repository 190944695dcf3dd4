/- Contracts of the program's functions. -/
import Derived.Test.YtbknndbfbebkdabGreatRR
import Derived.Test.YtbknndbfbebkdabGreatRLW
import Derived.Test.YtbknndbfbebkdabGreatRE5a
import Derived.Test.YtbknndbfbebkdabGreatRE5b
import Derived.Test.YtbknndbfbebkdabGreatRE5c
namespace Go.Proofs.YtbknndbfbebkdabGreatR
open Go.V
set_option linter.unusedSimpArgs false
set_option linter.unusedVariables false
set_option maxHeartbeats 4000000
/-- (*impl.Hopf).fails$1 -/
def ir104 : Cd := (.seq (.reg [⟨some 1,none,.mov (.c (.bool false))⟩]) (.seq (.reg [⟨some 2,none,.ld none (.t 0)⟩,⟨some 3,none,.call 100 [(.t 2)]⟩,⟨some 4,none,.ck (.t 3)⟩,⟨some 5,none,.ld (some 522) (.t 4)⟩,⟨some 6,none,.call 105 [(.t 5)]⟩,⟨some 1,none,.mov (.t 6)⟩]) .ret))
set_option maxRecDepth 100000 in
theorem tr104 : trFn Tryz.prog Tryz.f104 = some (7, ir104, [.tmp 1]) := by kernel_rfl
theorem Hopf_fails_1 (h : HT) (b nb : Nat) (K Kb : Blk) (H : Hp) (n : Nat) (hb : H.get b = some K) (hsz : K.size = 1106) (hK : h.At K.c) (hB : h.By)
    (gb : H.get nb = some Kb) (sb : Kb.size = 1) (cb : Kb.c 0 = .ptr b 0) :
    FnS Tryz.prog 104 [ptr nb 0] H n (fun r H' _ => r = bl (tb (ax h 0)) ∧ H' = H) := by
  refine FnS.of_body Tryz.func104 tr104 (by simp) (fun hf => ?_)
  dsimp only [argEnv]
  unfold ir104
  have hbn := getlt hf hb
  (repeat first|refine zG ?_|(refine LS.nilO ?_;intro nq hnq hltq;try refine zU ?_)|(refine MS.new ?_;intro bq hbq hbqf;try refine zU ?_)|(refine MS.nil ?_;intro nq hnq hltq;have hlq:=hltq _ _ (Hp.get_eq _ _ _);clear hltq;try refine zU ?_)|(refine LS.nilQ ?_;try with_reducible intro nq hnq;try refine zU ?_))
  refine RS.call rfl ((Hopf_algebra h b K _ _ (by exact zH) hsz hK).mono ?_)
  rintro r H' n2 hn2 ⟨b1, c1, rfl, q1, q2, rfl, q3, q4, q5, q6⟩
  (repeat first|refine zG ?_|(refine LS.nilO ?_;intro nq hnq hltq;try refine zU ?_)|(refine MS.new ?_;intro bq hbq hbqf;try refine zU ?_)|(refine MS.nil ?_;intro nq hnq hltq;have hlq:=hltq _ _ (Hp.get_eq _ _ _);clear hltq;try refine zU ?_)|(refine LS.nilQ ?_;try with_reducible intro nq hnq;try refine zU ?_))
  refine RS.call rfl ((impl_IsAlgebra h.p h.n h.u h.m c1 _ _ q3 q4 q5 q6 hB.u hB.m).mono ?_)
  rintro r H' n3 hn3 ⟨rfl, rfl⟩
  (repeat first|refine zG ?_|(refine LS.nilO ?_;intro nq hnq hltq;try refine zU ?_)|(refine MS.new ?_;intro bq hbq hbqf;try refine zU ?_)|(refine MS.nil ?_;intro nq hnq hltq;have hlq:=hltq _ _ (Hp.get_eq _ _ _);clear hltq;try refine zU ?_)|(refine LS.nilQ ?_;try with_reducible intro nq hnq;try refine zU ?_))
  exact ⟨_, H, rfl, by exact zD, rfl, rfl⟩
/-- (*impl.Hopf).fails$2 -/
def ir106 : Cd := (.seq (.reg [⟨some 1,none,.mov (.c (.bool false))⟩]) (.seq (.reg [⟨some 2,none,.ld none (.t 0)⟩,⟨some 3,none,.call 102 [(.t 2)]⟩,⟨some 4,none,.ck (.t 3)⟩,⟨some 5,none,.ld (some 522) (.t 4)⟩,⟨some 6,none,.call 107 [(.t 5)]⟩,⟨some 1,none,.mov (.t 6)⟩]) .ret))
set_option maxRecDepth 100000 in
theorem tr106 : trFn Tryz.prog Tryz.f106 = some (7, ir106, [.tmp 1]) := by kernel_rfl
theorem Hopf_fails_2 (h : HT) (b nb : Nat) (K Kb : Blk) (H : Hp) (n : Nat) (hb : H.get b = some K) (hsz : K.size = 1106) (hK : h.At K.c) (hB : h.By)
    (gb : H.get nb = some Kb) (sb : Kb.size = 1) (cb : Kb.c 0 = .ptr b 0) :
    FnS Tryz.prog 106 [ptr nb 0] H n (fun r H' _ => r = bl (tb (ax h 1)) ∧ H' = H) := by
  refine FnS.of_body Tryz.func106 tr106 (by simp) (fun hf => ?_)
  dsimp only [argEnv]
  unfold ir106
  have hbn := getlt hf hb
  (repeat first|refine zG ?_|(refine LS.nilO ?_;intro nq hnq hltq;try refine zU ?_)|(refine MS.new ?_;intro bq hbq hbqf;try refine zU ?_)|(refine MS.nil ?_;intro nq hnq hltq;have hlq:=hltq _ _ (Hp.get_eq _ _ _);clear hltq;try refine zU ?_)|(refine LS.nilQ ?_;try with_reducible intro nq hnq;try refine zU ?_))
  refine RS.call rfl ((Hopf_coalgebra h b K _ _ (by exact zH) hsz hK).mono ?_)
  rintro r H' n2 hn2 ⟨b1, c1, rfl, q1, q2, rfl, q3, q4, q5, q6⟩
  (repeat first|refine zG ?_|(refine LS.nilO ?_;intro nq hnq hltq;try refine zU ?_)|(refine MS.new ?_;intro bq hbq hbqf;try refine zU ?_)|(refine MS.nil ?_;intro nq hnq hltq;have hlq:=hltq _ _ (Hp.get_eq _ _ _);clear hltq;try refine zU ?_)|(refine LS.nilQ ?_;try with_reducible intro nq hnq;try refine zU ?_))
  refine RS.call rfl ((impl_IsCoalgebra h.p h.n h.e h.c c1 _ _ q3 q4 q5 q6 hB.e hB.c).mono ?_)
  rintro r H' n3 hn3 ⟨rfl, rfl⟩
  (repeat first|refine zG ?_|(refine LS.nilO ?_;intro nq hnq hltq;try refine zU ?_)|(refine MS.new ?_;intro bq hbq hbqf;try refine zU ?_)|(refine MS.nil ?_;intro nq hnq hltq;have hlq:=hltq _ _ (Hp.get_eq _ _ _);clear hltq;try refine zU ?_)|(refine LS.nilQ ?_;try with_reducible intro nq hnq;try refine zU ?_))
  exact ⟨_, H, rfl, by exact zD, rfl, rfl⟩
/-- (*impl.Hopf).fails$3 -/
def ir111 : Cd := (.seq (.reg [⟨some 1,none,.mov (.c (.bool false))⟩]) (.seq (.reg [⟨some 2,none,.ld none (.t 0)⟩,⟨some 3,none,.call 112 [(.t 2),(.c (.bool true))]⟩,⟨some 1,none,.mov (.t 3)⟩]) .ret))
set_option maxRecDepth 100000 in
theorem tr111 : trFn Tryz.prog Tryz.f111 = some (4, ir111, [.tmp 1]) := by kernel_rfl
theorem Hopf_fails_3 (h : HT) (a b nb : Nat) (K Kb : Blk) (H : Hp) (n : Nat) (hS : HS h a) (hb : H.get b = some K) (hsz : K.size = 1106) (hK : h.At K.c) (hB : h.By)
    (gb : H.get nb = some Kb) (sb : Kb.size = 1) (cb : Kb.c 0 = .ptr b 0) :
    FnS Tryz.prog 111 [ptr nb 0] H n (fun r H' _ => r = bl (tb (ax h 5)) ∧ H' = H) := by
  refine FnS.of_body Tryz.func111 tr111 (by simp) (fun hf => ?_)
  dsimp only [argEnv]
  unfold ir111
  have hbn := getlt hf hb
  (repeat first|refine zG ?_|(refine LS.nilO ?_;intro nq hnq hltq;try refine zU ?_)|(refine MS.new ?_;intro bq hbq hbqf;try refine zU ?_)|(refine MS.nil ?_;intro nq hnq hltq;have hlq:=hltq _ _ (Hp.get_eq _ _ _);clear hltq;try refine zU ?_)|(refine LS.nilQ ?_;try with_reducible intro nq hnq;try refine zU ?_))
  refine RS.call rfl ((Hopf_axiomS h a true (g6 h.p h.m h.s a) rfl b K _ _ hS (by exact zH) hsz hK hB).mono ?_)
  rintro r H n2 hn2 ⟨rfl, rfl⟩
  (repeat first|refine zG ?_|(refine LS.nilO ?_;intro nq hnq hltq;try refine zU ?_)|(refine MS.new ?_;intro bq hbq hbqf;try refine zU ?_)|(refine MS.nil ?_;intro nq hnq hltq;have hlq:=hltq _ _ (Hp.get_eq _ _ _);clear hltq;try refine zU ?_)|(refine LS.nilQ ?_;try with_reducible intro nq hnq;try refine zU ?_))
  exact ⟨_, H, rfl, by exact zD, congrArg bl (tb_iff (ax_fold6 hS).symm), rfl⟩
/-- (*impl.Hopf).fails$4 -/
def ir113 : Cd := (.seq (.reg [⟨some 1,none,.mov (.c (.bool false))⟩]) (.seq (.reg [⟨some 2,none,.ld none (.t 0)⟩,⟨some 3,none,.call 112 [(.t 2),(.c (.bool false))]⟩,⟨some 1,none,.mov (.t 3)⟩]) .ret))
set_option maxRecDepth 100000 in
theorem tr113 : trFn Tryz.prog Tryz.f113 = some (4, ir113, [.tmp 1]) := by kernel_rfl
theorem Hopf_fails_4 (h : HT) (a b nb : Nat) (K Kb : Blk) (H : Hp) (n : Nat) (hS : HS h a) (hb : H.get b = some K) (hsz : K.size = 1106) (hK : h.At K.c) (hB : h.By)
    (gb : H.get nb = some Kb) (sb : Kb.size = 1) (cb : Kb.c 0 = .ptr b 0) :
    FnS Tryz.prog 113 [ptr nb 0] H n (fun r H' _ => r = bl (tb (ax h 6)) ∧ H' = H) := by
  refine FnS.of_body Tryz.func113 tr113 (by simp) (fun hf => ?_)
  dsimp only [argEnv]
  unfold ir113
  have hbn := getlt hf hb
  (repeat first|refine zG ?_|(refine LS.nilO ?_;intro nq hnq hltq;try refine zU ?_)|(refine MS.new ?_;intro bq hbq hbqf;try refine zU ?_)|(refine MS.nil ?_;intro nq hnq hltq;have hlq:=hltq _ _ (Hp.get_eq _ _ _);clear hltq;try refine zU ?_)|(refine LS.nilQ ?_;try with_reducible intro nq hnq;try refine zU ?_))
  refine RS.call rfl ((Hopf_axiomS h a false (g7 h.p h.m h.s a) rfl b K _ _ hS (by exact zH) hsz hK hB).mono ?_)
  rintro r H n2 hn2 ⟨rfl, rfl⟩
  (repeat first|refine zG ?_|(refine LS.nilO ?_;intro nq hnq hltq;try refine zU ?_)|(refine MS.new ?_;intro bq hbq hbqf;try refine zU ?_)|(refine MS.nil ?_;intro nq hnq hltq;have hlq:=hltq _ _ (Hp.get_eq _ _ _);clear hltq;try refine zU ?_)|(refine LS.nilQ ?_;try with_reducible intro nq hnq;try refine zU ?_))
  exact ⟨_, H, rfl, by exact zD, congrArg bl (tb_iff (ax_fold7 hS).symm), rfl⟩
theorem axF_ok (h : HT) (a b nb : Nat) (K Kb : Blk) (H : Hp) (hS : HS h a) (hb : H.get b = some K) (hsz : K.size = 1106) (hK : h.At K.c) (hB : h.By)
    (gb : H.get nb = some Kb) (sb : Kb.size = 1) (cb : Kb.c 0 = .ptr b 0) (k : Nat) (hk : k < 7) :
    ∃ f pre post, axF b nb k = .fn f pre post ∧ ∀ n, FnS Tryz.prog f (pre.map .s ++ [] ++ post.map .s) H n (fun r H' _ => r = bl (tb (ax h k)) ∧ H' = H) := by
  have : k = 0 ∨ k = 1 ∨ k = 2 ∨ k = 3 ∨ k = 4 ∨ k = 5 ∨ k = 6 := by omega
  rcases this with rfl | rfl | rfl | rfl | rfl | rfl | rfl
  · exact ⟨_, _, _, rfl, fun n => Hopf_fails_1 h b nb K Kb H n hb hsz hK hB gb sb cb⟩
  · exact ⟨_, _, _, rfl, fun n => Hopf_fails_2 h b nb K Kb H n hb hsz hK hB gb sb cb⟩
  · exact ⟨_, _, _, rfl, fun n => Hopf_axiom3 h a b K H n hS hb hsz hK hB⟩
  · exact ⟨_, _, _, rfl, fun n => Hopf_axiom4 h a b K H n hS hb hsz hK hB⟩
  · exact ⟨_, _, _, rfl, fun n => Hopf_axiom5 h a b K H n hS hb hsz hK hB⟩
  · exact ⟨_, _, _, rfl, fun n => Hopf_fails_3 h a b nb K Kb H n hS hb hsz hK hB gb sb cb⟩
  · exact ⟨_, _, _, rfl, fun n => Hopf_fails_4 h a b nb K Kb H n hS hb hsz hK hB gb sb cb⟩
end Go.Proofs.YtbknndbfbebkdabGreatR
