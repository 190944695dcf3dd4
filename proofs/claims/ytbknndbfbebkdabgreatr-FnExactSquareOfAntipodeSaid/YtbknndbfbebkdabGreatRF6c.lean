/- Contracts of the program's functions. -/
import Derived.Test.YtbknndbfbebkdabGreatRR
import Derived.Test.YtbknndbfbebkdabGreatRLW
import Derived.Test.YtbknndbfbebkdabGreatRF5a
import Derived.Test.YtbknndbfbebkdabGreatRF5b
import Derived.Test.YtbknndbfbebkdabGreatRF5c
namespace Go.Proofs.YtbknndbfbebkdabGreatR
open Go.V
set_option linter.unusedSimpArgs false
set_option linter.unusedVariables false
set_option maxHeartbeats 4000000
/-- (*impl.Hopf).fails$1 -/
def ir104 : Cd := (.seq (.reg [⟨some 1,none,.mov (.c (.bool false))⟩]) (.seq (.reg [⟨some 2,none,.ld none (.t 0)⟩,⟨some 3,none,.call 100 [(.t 2)]⟩,⟨some 4,none,.ck (.t 3)⟩,⟨some 5,none,.ld (some 522) (.t 4)⟩,⟨some 6,none,.call 105 [(.t 5)]⟩,⟨some 1,none,.mov (.t 6)⟩]) .ret))
set_option maxRecDepth 100000 in
theorem tr104 : trFn Tryz.prog Tryz.f104 = some (7, ir104, [.tmp 1]) := by kernel_rfl
theorem Hopf_fails_1 (h : HT) (b nb : Nat) (K Kb : Blk) (H : Hp) (n : Nat) (hb : H.get b = some K) (hsz : K.size = 1106) (hK : h.At K.c) (hB : h.By)
    (gb : H.get nb = some Kb) (sb : Kb.size = 1) (cb : Kb.c 0 = .ptr b 0) :
    FnS Tryz.prog 104 [ptr nb 0] H n (fun r H' _ => r = bl (tb (ax h 0)) ∧ H' = H) := by
  refine FnS.of_body Tryz.func104 tr104 (by simp) (fun hf => ?_)
  dsimp only [argEnv]
  unfold ir104
  have hbn := getlt hf hb
  (repeat first|refine zG ?_|(refine LS.nilO ?_;intro nq hnq hltq;try refine zU ?_)|(refine MS.new ?_;intro bq hbq hbqf;try refine zU ?_)|(refine MS.nil ?_;intro nq hnq hltq;have hlq:=hltq _ _ (Hp.get_eq _ _ _);clear hltq;try refine zU ?_)|(refine LS.nilQ ?_;try with_reducible intro nq hnq;try refine zU ?_))
  refine RS.call rfl ((Hopf_algebra h b K _ _ (by exact zH) hsz hK).mono ?_)
  rintro r H' n2 hn2 ⟨b1, c1, rfl, q1, q2, rfl, q3, q4, q5, q6⟩
  (repeat first|refine zG ?_|(refine LS.nilO ?_;intro nq hnq hltq;try refine zU ?_)|(refine MS.new ?_;intro bq hbq hbqf;try refine zU ?_)|(refine MS.nil ?_;intro nq hnq hltq;have hlq:=hltq _ _ (Hp.get_eq _ _ _);clear hltq;try refine zU ?_)|(refine LS.nilQ ?_;try with_reducible intro nq hnq;try refine zU ?_))
  refine RS.call rfl ((impl_IsAlgebra h.p h.n h.u h.m c1 _ _ q3 q4 q5 q6 hB.u hB.m).mono ?_)
  rintro r H' n3 hn3 ⟨rfl, rfl⟩
  (repeat first|refine zG ?_|(refine LS.nilO ?_;intro nq hnq hltq;try refine zU ?_)|(refine MS.new ?_;intro bq hbq hbqf;try refine zU ?_)|(refine MS.nil ?_;intro nq hnq hltq;have hlq:=hltq _ _ (Hp.get_eq _ _ _);clear hltq;try refine zU ?_)|(refine LS.nilQ ?_;try with_reducible intro nq hnq;try refine zU ?_))
  exact ⟨_, H, rfl, by exact zD, rfl, rfl⟩
/-- (*impl.Hopf).fails$2 -/
def ir106 : Cd := (.seq (.reg [⟨some 1,none,.mov (.c (.bool false))⟩]) (.seq (.reg [⟨some 2,none,.ld none (.t 0)⟩,⟨some 3,none,.call 102 [(.t 2)]⟩,⟨some 4,none,.ck (.t 3)⟩,⟨some 5,none,.ld (some 522) (.t 4)⟩,⟨some 6,none,.call 107 [(.t 5)]⟩,⟨some 1,none,.mov (.t 6)⟩]) .ret))
set_option maxRecDepth 100000 in
theorem tr106 : trFn Tryz.prog Tryz.f106 = some (7, ir106, [.tmp 1]) := by kernel_rfl
theorem Hopf_fails_2 (h : HT) (b nb : Nat) (K Kb : Blk) (H : Hp) (n : Nat) (hb : H.get b = some K) (hsz : K.size = 1106) (hK : h.At K.c) (hB : h.By)
    (gb : H.get nb = some Kb) (sb : Kb.size = 1) (cb : Kb.c 0 = .ptr b 0) :
    FnS Tryz.prog 106 [ptr nb 0] H n (fun r H' _ => r = bl (tb (ax h 1)) ∧ H' = H) := by
  refine FnS.of_body Tryz.func106 tr106 (by simp) (fun hf => ?_)
  dsimp only [argEnv]
  unfold ir106
  have hbn := getlt hf hb
  (repeat first|refine zG ?_|(refine LS.nilO ?_;intro nq hnq hltq;try refine zU ?_)|(refine MS.new ?_;intro bq hbq hbqf;try refine zU ?_)|(refine MS.nil ?_;intro nq hnq hltq;have hlq:=hltq _ _ (Hp.get_eq _ _ _);clear hltq;try refine zU ?_)|(refine LS.nilQ ?_;try with_reducible intro nq hnq;try refine zU ?_))
  refine RS.call rfl ((Hopf_coalgebra h b K _ _ (by exact zH) hsz hK).mono ?_)
  rintro r H' n2 hn2 ⟨b1, c1, rfl, q1, q2, rfl, q3, q4, q5, q6⟩
  (repeat first|refine zG ?_|(refine LS.nilO ?_;intro nq hnq hltq;try refine zU ?_)|(refine MS.new ?_;intro bq hbq hbqf;try refine zU ?_)|(refine MS.nil ?_;intro nq hnq hltq;have hlq:=hltq _ _ (Hp.get_eq _ _ _);clear hltq;try refine zU ?_)|(refine LS.nilQ ?_;try with_reducible intro nq hnq;try refine zU ?_))
  refine RS.call rfl ((impl_IsCoalgebra h.p h.n h.e h.c c1 _ _ q3 q4 q5 q6 hB.e hB.c).mono ?_)
  rintro r H' n3 hn3 ⟨rfl, rfl⟩
  (repeat first|refine zG ?_|(refine LS.nilO ?_;intro nq hnq hltq;try refine zU ?_)|(refine MS.new ?_;intro bq hbq hbqf;try refine zU ?_)|(refine MS.nil ?_;intro nq hnq hltq;have hlq:=hltq _ _ (Hp.get_eq _ _ _);clear hltq;try refine zU ?_)|(refine LS.nilQ ?_;try with_reducible intro nq hnq;try refine zU ?_))
  exact ⟨_, H, rfl, by exact zD, rfl, rfl⟩
/-- (*impl.Hopf).fails$3 -/
def ir111 : Cd := (.seq (.reg [⟨some 1,none,.mov (.c (.bool false))⟩]) (.seq (.reg [⟨some 2,none,.ld none (.t 0)⟩,⟨some 3,none,.call 112 [(.t 2),(.c (.bool true))]⟩,⟨some 1,none,.mov (.t 3)⟩]) .ret))
set_option maxRecDepth 100000 in
theorem tr111 : trFn Tryz.prog Tryz.f111 = some (4, ir111, [.tmp 1]) := by kernel_rfl
theorem Hopf_fails_3 (h : HT) (a b nb : Nat) (K Kb : Blk) (H : Hp) (n : Nat) (hS : HS h a) (hb : H.get b = some K) (hsz : K.size = 1106) (hK : h.At K.c) (hB : h.By)
    (gb : H.get nb = some Kb) (sb : Kb.size = 1) (cb : Kb.c 0 = .ptr b 0) :
    FnS Tryz.prog 111 [ptr nb 0] H n (fun r H' _ => r = bl (tb (ax h 5)) ∧ H' = H) := by
  refine FnS.of_body Tryz.func111 tr111 (by simp) (fun hf => ?_)
  dsimp only [argEnv]
  unfold ir111
  have hbn := getlt hf hb
  (repeat first|refine zG ?_|(refine LS.nilO ?_;intro nq hnq hltq;try refine zU ?_)|(refine MS.new ?_;intro bq hbq hbqf;try refine zU ?_)|(refine MS.nil ?_;intro nq hnq hltq;have hlq:=hltq _ _ (Hp.get_eq _ _ _);clear hltq;try refine zU ?_)|(refine LS.nilQ ?_;try with_reducible intro nq hnq;try refine zU ?_))
  refine RS.call rfl ((Hopf_axiomS h a true (g6 h.p h.m h.s a) rfl b K _ _ hS (by exact zH) hsz hK hB).mono ?_)
  rintro r H n2 hn2 ⟨rfl, rfl⟩
  (repeat first|refine zG ?_|(refine LS.nilO ?_;intro nq hnq hltq;try refine zU ?_)|(refine MS.new ?_;intro bq hbq hbqf;try refine zU ?_)|(refine MS.nil ?_;intro nq hnq hltq;have hlq:=hltq _ _ (Hp.get_eq _ _ _);clear hltq;try refine zU ?_)|(refine LS.nilQ ?_;try with_reducible intro nq hnq;try refine zU ?_))
  exact ⟨_, H, rfl, by exact zD, congrArg bl (tb_iff (ax_fold6 hS).symm), rfl⟩
/-- (*impl.Hopf).fails$4 -/
def ir113 : Cd := (.seq (.reg [⟨some 1,none,.mov (.c (.bool false))⟩]) (.seq (.reg [⟨some 2,none,.ld none (.t 0)⟩,⟨some 3,none,.call 112 [(.t 2),(.c (.bool false))]⟩,⟨some 1,none,.mov (.t 3)⟩]) .ret))
set_option maxRecDepth 100000 in
theorem tr113 : trFn Tryz.prog Tryz.f113 = some (4, ir113, [.tmp 1]) := by kernel_rfl
theorem Hopf_fails_4 (h : HT) (a b nb : Nat) (K Kb : Blk) (H : Hp) (n : Nat) (hS : HS h a) (hb : H.get b = some K) (hsz : K.size = 1106) (hK : h.At K.c) (hB : h.By)
    (gb : H.get nb = some Kb) (sb : Kb.size = 1) (cb : Kb.c 0 = .ptr b 0) :
    FnS Tryz.prog 113 [ptr nb 0] H n (fun r H' _ => r = bl (tb (ax h 6)) ∧ H' = H) := by
  refine FnS.of_body Tryz.func113 tr113 (by simp) (fun hf => ?_)
  dsimp only [argEnv]
  unfold ir113
  have hbn := getlt hf hb
  (repeat first|refine zG ?_|(refine LS.nilO ?_;intro nq hnq hltq;try refine zU ?_)|(refine MS.new ?_;intro bq hbq hbqf;try refine zU ?_)|(refine MS.nil ?_;intro nq hnq hltq;have hlq:=hltq _ _ (Hp.get_eq _ _ _);clear hltq;try refine zU ?_)|(refine LS.nilQ ?_;try with_reducible intro nq hnq;try refine zU ?_))
  refine RS.call rfl ((Hopf_axiomS h a false (g7 h.p h.m h.s a) rfl b K _ _ hS (by exact zH) hsz hK hB).mono ?_)
  rintro r H n2 hn2 ⟨rfl, rfl⟩
  (repeat first|refine zG ?_|(refine LS.nilO ?_;intro nq hnq hltq;try refine zU ?_)|(refine MS.new ?_;intro bq hbq hbqf;try refine zU ?_)|(refine MS.nil ?_;intro nq hnq hltq;have hlq:=hltq _ _ (Hp.get_eq _ _ _);clear hltq;try refine zU ?_)|(refine LS.nilQ ?_;try with_reducible intro nq hnq;try refine zU ?_))
  exact ⟨_, H, rfl, by exact zD, congrArg bl (tb_iff (ax_fold7 hS).symm), rfl⟩
/-- (*impl.Hopf).condition -/
def ir48 : Cd := (.seq (.reg [⟨some 4,none,.mov (.c (.int .i64 0))⟩]) (.seq (.reg [⟨some 6,none,.mov (.t 0)⟩,⟨some 7,none,.mov (.t 1)⟩,⟨some 8,none,.call 25 [(.t 6),(.t 7)]⟩,⟨some 5,none,.new 29 [(64,(.int .u8 0))]⟩,⟨none,none,.st 64 (.t 5) (.t 8)⟩]) (.seq (.block 0 (.seq (.reg [⟨some 10,none,.mov (.t 0)⟩,⟨some 11,none,.mov (.t 1)⟩,⟨some 12,none,.call 78 [(.t 10),(.t 11)]⟩,⟨some 13,none,.un .not (.t 12)⟩,⟨some 9,none,.mov (.t 13)⟩]) (.cond (.t 9) (.seq (.reg [⟨some 4,none,.mov (.c (.int .i64 1))⟩]) .ret) (.seq (.reg [⟨some 15,none,.mov (.t 0)⟩,⟨some 16,none,.mov (.t 1)⟩,⟨some 17,none,.call 61 [(.t 15),(.t 16)]⟩,⟨some 18,none,.mov (.t 0)⟩,⟨some 19,none,.mov (.t 1)⟩,⟨some 20,none,.call 79 [(.t 18),(.t 19)]⟩,⟨some 21,none,.eqa true 512 (.t 17) (.t 20)⟩,⟨some 14,none,.mov (.t 21)⟩]) (.cond (.t 14) (.seq (.reg [⟨some 4,none,.mov (.c (.int .i64 2))⟩]) .ret) (.seq (.reg [⟨some 23,none,.mov (.t 0)⟩,⟨some 24,none,.mov (.t 1)⟩,⟨some 25,none,.call 62 [(.t 23),(.t 24)]⟩,⟨some 26,none,.mov (.t 0)⟩,⟨some 27,none,.mov (.t 1)⟩,⟨some 28,none,.call 80 [(.t 26),(.t 27)]⟩,⟨some 29,none,.eqa true 512 (.t 25) (.t 28)⟩,⟨some 22,none,.mov (.t 29)⟩]) (.cond (.t 22) (.seq (.reg [⟨some 4,none,.mov (.c (.int .i64 3))⟩]) .ret) (.seq (.reg [⟨some 31,none,.mov (.t 0)⟩,⟨some 32,none,.mov (.t 1)⟩,⟨some 33,none,.call 42 [(.t 31),(.t 32),(.t 5)]⟩,⟨some 34,none,.mov (.t 0)⟩,⟨some 35,none,.call 81 [(.t 34)]⟩,⟨some 36,none,.eqa true 64 (.t 33) (.t 35)⟩,⟨some 37,none,.mov (.t 36)⟩,⟨some 38,(some (37,false)),.mov (.t 0)⟩,⟨some 39,(some (37,false)),.mov (.t 1)⟩,⟨some 40,(some (37,false)),.call 42 [(.t 38),(.t 5),(.t 39)]⟩,⟨some 41,(some (37,false)),.mov (.t 0)⟩,⟨some 42,(some (37,false)),.call 81 [(.t 41)]⟩,⟨some 43,(some (37,false)),.eqa true 64 (.t 40) (.t 42)⟩,⟨some 44,none,.pick (.t 37) (.c (.bool true)) (.t 43)⟩,⟨some 30,none,.mov (.t 44)⟩]) (.cond (.t 30) (.seq (.reg [⟨some 4,none,.mov (.c (.int .i64 4))⟩]) .ret) .skip))))))))) (.seq (.reg [⟨some 4,none,.mov (.c (.int .i64 0))⟩]) .ret))))
set_option maxRecDepth 100000 in
theorem tr48 : trFn Tryz.prog Tryz.f48 = some (45, ir48, [.tmp 4]) := by kernel_rfl
theorem Hopf_condition (h : HT) (a : Nat) (s : Nat → Int) (b bs os : Nat) (K Ks : Blk) (H : Hp) (n : Nat) (hS : HS h a) (hb : H.get b = some K) (hsz : K.size = 1106) (hK : h.At K.c) (hB : h.By)
    (hbs : H.get bs = some Ks) (ho : os + 64 ≤ Ks.size) (hc : ∀ i, i < 64 → Ks.c (os + i) = .int .u8 (s i)) (hs : isBy 64 s) (hz : lz a s) :
    FnS Tryz.prog 48 [ptr b 0, ptr bs os] H n (fun r H' _ => r = i64 (cnd h a s) ∧ H' = H) := by
  have hp := hS.hp
  refine FnS.of_body Tryz.func48 tr48 (by simp) (fun hf => ?_)
  dsimp only [argEnv]
  unfold ir48
  have hbn := getlt hf hb
  have hbn2 := getlt hf hbs
  (repeat first|refine zG ?_|(refine LS.nilO ?_;intro nq hnq hltq;try refine zU ?_)|(refine MS.new ?_;intro bq hbq hbqf;try refine zU ?_)|(refine MS.nil ?_;intro nq hnq hltq;have hlq:=hltq _ _ (Hp.get_eq _ _ _);clear hltq;try refine zU ?_)|(refine LS.nilQ ?_;try with_reducible intro nq hnq;try refine zU ?_))
  obtain ⟨x0, hx0⟩ : ∃ x, x = und h.p h.s s a := ⟨_, rfl⟩
  have hby : isBy 64 x0 := by rw [hx0]; exact (und_res hp.1 _ _ _ 64).by hp.2
  refine RS.call rfl ((Hopf_underS h a s b bs os K Ks _ _ hS (by exact zH) hsz hK hB (by exact zH) ho hc hs).mono ?_)
  rw [← hx0]
  rintro r H n2 hn2 ⟨rfl, rfl⟩
  (repeat first|refine zG ?_|(refine LS.nilO ?_;intro nq hnq hltq;try refine zU ?_)|(refine MS.new ?_;intro bq hbq hbqf;try refine zU ?_)|(refine MS.nil ?_;intro nq hnq hltq;have hlq:=hltq _ _ (Hp.get_eq _ _ _);clear hltq;try refine zU ?_)|(refine LS.nilQ ?_;try with_reducible intro nq hnq;try refine zU ?_))
  refine RS.call rfl ((Hopf_turns h a s b bs os K Ks _ _ hS (by exact zH) hsz hK hB (by exact zH) ho hc hs).mono ?_)
  rintro r H' n3 hn3 ⟨rfl, rfl⟩
  (repeat first|refine zG ?_|(refine LS.nilO ?_;intro nq hnq hltq;try refine zU ?_)|(refine MS.new ?_;intro bq hbq hbqf;try refine zU ?_)|(refine MS.nil ?_;intro nq hnq hltq;have hlq:=hltq _ _ (Hp.get_eq _ _ _);clear hltq;try refine zU ?_)|(refine LS.nilQ ?_;try with_reducible intro nq hnq;try refine zU ?_))
  refine zI ?_ ?_<;>intro h1
  · (repeat first|refine zG ?_|(refine LS.nilO ?_;intro nq hnq hltq;try refine zU ?_)|(refine MS.new ?_;intro bq hbq hbqf;try refine zU ?_)|(refine MS.nil ?_;intro nq hnq hltq;have hlq:=hltq _ _ (Hp.get_eq _ _ _);clear hltq;try refine zU ?_)|(refine LS.nilQ ?_;try with_reducible intro nq hnq;try refine zU ?_))
    exact ⟨_, H, rfl, by exact zD, by rw [cnd_1 h1], rfl⟩
  (repeat first|refine zG ?_|(refine LS.nilO ?_;intro nq hnq hltq;try refine zU ?_)|(refine MS.new ?_;intro bq hbq hbqf;try refine zU ?_)|(refine MS.nil ?_;intro nq hnq hltq;have hlq:=hltq _ _ (Hp.get_eq _ _ _);clear hltq;try refine zU ?_)|(refine LS.nilQ ?_;try with_reducible intro nq hnq;try refine zU ?_))
  obtain ⟨x1, hx1⟩ : ∃ x, x = fpt h.p h.c s a := ⟨_, rfl⟩
  obtain ⟨x2, hx2⟩ : ∃ x, x = r23 h.p h.m s := ⟨_, rfl⟩
  refine RS.call rfl ((Hopf_firstPart h a s b bs os K Ks _ _ hS (by exact zH) hsz hK hB (by exact zH) ho hc hs).mono ?_)
  rw [← hx1]
  rintro r H' n4 hn4 ⟨rfl, rfl⟩
  (repeat first|refine zG ?_|(refine LS.nilO ?_;intro nq hnq hltq;try refine zU ?_)|(refine MS.new ?_;intro bq hbq hbqf;try refine zU ?_)|(refine MS.nil ?_;intro nq hnq hltq;have hlq:=hltq _ _ (Hp.get_eq _ _ _);clear hltq;try refine zU ?_)|(refine LS.nilQ ?_;try with_reducible intro nq hnq;try refine zU ?_))
  refine RS.call rfl ((Hopf_product1323 h a s b bs os K Ks _ _ hS (by exact zH) hsz hK hB (by exact zH) ho hc hs).mono ?_)
  rw [← hx2]
  rintro r H' n5 hn5 ⟨rfl, rfl⟩
  (repeat first|refine zG ?_|(refine LS.nilO ?_;intro nq hnq hltq;try refine zU ?_)|(refine MS.new ?_;intro bq hbq hbqf;try refine zU ?_)|(refine MS.nil ?_;intro nq hnq hltq;have hlq:=hltq _ _ (Hp.get_eq _ _ _);clear hltq;try refine zU ?_)|(refine LS.nilQ ?_;try with_reducible intro nq hnq;try refine zU ?_))
  refine zI ?_ ?_<;>intro h2
  · (repeat first|refine zG ?_|(refine LS.nilO ?_;intro nq hnq hltq;try refine zU ?_)|(refine MS.new ?_;intro bq hbq hbqf;try refine zU ?_)|(refine MS.nil ?_;intro nq hnq hltq;have hlq:=hltq _ _ (Hp.get_eq _ _ _);clear hltq;try refine zU ?_)|(refine LS.nilQ ?_;try with_reducible intro nq hnq;try refine zU ?_))
    exact ⟨_, H, rfl, by exact zD, by rw [cnd_2 h1 (by unfold cn2; rw [← hx1, ← hx2]; exact h2)], rfl⟩
  (repeat first|refine zG ?_|(refine LS.nilO ?_;intro nq hnq hltq;try refine zU ?_)|(refine MS.new ?_;intro bq hbq hbqf;try refine zU ?_)|(refine MS.nil ?_;intro nq hnq hltq;have hlq:=hltq _ _ (Hp.get_eq _ _ _);clear hltq;try refine zU ?_)|(refine LS.nilQ ?_;try with_reducible intro nq hnq;try refine zU ?_))
  obtain ⟨x3, hx3⟩ : ∃ x, x = snd h.p h.c s := ⟨_, rfl⟩
  obtain ⟨x4, hx4⟩ : ∃ x, x = r12 h.p h.m s := ⟨_, rfl⟩
  refine RS.call rfl ((Hopf_secondPart h a s b bs os K Ks _ _ hS (by exact zH) hsz hK hB (by exact zH) ho hc hs hz).mono ?_)
  rw [← hx3]
  rintro r H' n6 hn6 ⟨rfl, rfl⟩
  (repeat first|refine zG ?_|(refine LS.nilO ?_;intro nq hnq hltq;try refine zU ?_)|(refine MS.new ?_;intro bq hbq hbqf;try refine zU ?_)|(refine MS.nil ?_;intro nq hnq hltq;have hlq:=hltq _ _ (Hp.get_eq _ _ _);clear hltq;try refine zU ?_)|(refine LS.nilQ ?_;try with_reducible intro nq hnq;try refine zU ?_))
  refine RS.call rfl ((Hopf_product1312 h a s b bs os K Ks _ _ hS (by exact zH) hsz hK hB (by exact zH) ho hc hs).mono ?_)
  rw [← hx4]
  rintro r H' n7 hn7 ⟨rfl, rfl⟩
  (repeat first|refine zG ?_|(refine LS.nilO ?_;intro nq hnq hltq;try refine zU ?_)|(refine MS.new ?_;intro bq hbq hbqf;try refine zU ?_)|(refine MS.nil ?_;intro nq hnq hltq;have hlq:=hltq _ _ (Hp.get_eq _ _ _);clear hltq;try refine zU ?_)|(refine LS.nilQ ?_;try with_reducible intro nq hnq;try refine zU ?_))
  have g2 : cn2 h a s := by unfold cn2; rw [← hx1, ← hx2]; exact h2
  refine zI ?_ ?_<;>intro h3
  · (repeat first|refine zG ?_|(refine LS.nilO ?_;intro nq hnq hltq;try refine zU ?_)|(refine MS.new ?_;intro bq hbq hbqf;try refine zU ?_)|(refine MS.nil ?_;intro nq hnq hltq;have hlq:=hltq _ _ (Hp.get_eq _ _ _);clear hltq;try refine zU ?_)|(refine LS.nilQ ?_;try with_reducible intro nq hnq;try refine zU ?_))
    exact ⟨_, H, rfl, by exact zD, by rw [cnd_3 h1 g2 (by unfold cn3; rw [← hx3, ← hx4]; exact h3)], rfl⟩
  have g3 : cn3 h s := by unfold cn3; rw [← hx3, ← hx4]; exact h3
  (repeat first|refine zG ?_|(refine LS.nilO ?_;intro nq hnq hltq;try refine zU ?_)|(refine MS.new ?_;intro bq hbq hbqf;try refine zU ?_)|(refine MS.nil ?_;intro nq hnq hltq;have hlq:=hltq _ _ (Hp.get_eq _ _ _);clear hltq;try refine zU ?_)|(refine LS.nilQ ?_;try with_reducible intro nq hnq;try refine zU ?_))
  obtain ⟨x5, hx5⟩ : ∃ x, x = ten h.p h.m s x0 := ⟨_, rfl⟩
  obtain ⟨x6, hx6⟩ : ∃ x, x = ten h.p h.m x0 s := ⟨_, rfl⟩
  obtain ⟨x7, hx7⟩ : ∃ x, x = outer h.p h.u h.u := ⟨_, rfl⟩
  refine RS.call rfl ((Hopf_tensor h a s x0 b bs os n2 0 K Ks ⟨64, bys x0, 29⟩ _ _ hS (by exact zH) hsz hK hB hs hby (by exact zH) ho hc (by exact zH) (by simp) (fun q hq => by rw [Nat.zero_add]; rfl)).mono ?_)
  rw [← hx5]
  rintro r H' n8 hn8 ⟨rfl, rfl⟩
  (repeat first|refine zG ?_|(refine LS.nilO ?_;intro nq hnq hltq;try refine zU ?_)|(refine MS.new ?_;intro bq hbq hbqf;try refine zU ?_)|(refine MS.nil ?_;intro nq hnq hltq;have hlq:=hltq _ _ (Hp.get_eq _ _ _);clear hltq;try refine zU ?_)|(refine LS.nilQ ?_;try with_reducible intro nq hnq;try refine zU ?_))
  refine RS.call rfl ((Hopf_one h a b K _ _ hS (by exact zH) hsz hK hB).mono ?_)
  rw [← hx7]
  rintro r H' n9 hn9 ⟨rfl, rfl⟩
  (repeat first|refine zG ?_|(refine LS.nilO ?_;intro nq hnq hltq;try refine zU ?_)|(refine MS.new ?_;intro bq hbq hbqf;try refine zU ?_)|(refine MS.nil ?_;intro nq hnq hltq;have hlq:=hltq _ _ (Hp.get_eq _ _ _);clear hltq;try refine zU ?_)|(refine LS.nilQ ?_;try with_reducible intro nq hnq;try refine zU ?_))
  refine RS.sp (t := 37) rfl (fun h4 => ?_) (fun h4 => ?_) <;> (try simp only [tb_eq, tb_eqF, decide_eq_true_eq, decide_eq_false_iff_not, beq_iff_eq, bne_iff_ne, ne_eq, Decidable.not_not, beq_eq_false_iff_ne, bne_eq_false_iff_eq, Bool.not_eq_true', Bool.not_eq_false', Bool.not_eq_eq_eq_not, Bool.not_true, Bool.not_false] at h4)
  · (repeat first|refine zG ?_|(refine LS.nilO ?_;intro nq hnq hltq;try refine zU ?_)|(refine MS.new ?_;intro bq hbq hbqf;try refine zU ?_)|(refine MS.nil ?_;intro nq hnq hltq;have hlq:=hltq _ _ (Hp.get_eq _ _ _);clear hltq;try refine zU ?_)|(refine LS.nilQ ?_;try with_reducible intro nq hnq;try refine zU ?_))
    exact ⟨_, H, rfl, by exact zD, by rw [cnd_4 h1 g2 g3 (fun q => h4 (by rw [hx5, hx7, hx0]; exact q.1))], rfl⟩
  · (repeat first|refine zG ?_|(refine LS.nilO ?_;intro nq hnq hltq;try refine zU ?_)|(refine MS.new ?_;intro bq hbq hbqf;try refine zU ?_)|(refine MS.nil ?_;intro nq hnq hltq;have hlq:=hltq _ _ (Hp.get_eq _ _ _);clear hltq;try refine zU ?_)|(refine LS.nilQ ?_;try with_reducible intro nq hnq;try refine zU ?_))
    refine RS.call rfl ((Hopf_tensor h a x0 s b n2 0 bs os K ⟨64, bys x0, 29⟩ Ks _ _ hS (by exact zH) hsz hK hB hby hs (by exact zH) (by simp) (fun q hq => by rw [Nat.zero_add]; rfl) (by exact zH) ho hc).mono ?_)
    rw [← hx6]
    rintro r H' n10 hn10 ⟨rfl, rfl⟩
    (repeat first|refine zG ?_|(refine LS.nilO ?_;intro nq hnq hltq;try refine zU ?_)|(refine MS.new ?_;intro bq hbq hbqf;try refine zU ?_)|(refine MS.nil ?_;intro nq hnq hltq;have hlq:=hltq _ _ (Hp.get_eq _ _ _);clear hltq;try refine zU ?_)|(refine LS.nilQ ?_;try with_reducible intro nq hnq;try refine zU ?_))
    refine RS.call rfl ((Hopf_one h a b K _ _ hS (by exact zH) hsz hK hB).mono ?_)
    rw [← hx7]
    rintro r H' n11 hn11 ⟨rfl, rfl⟩
    (repeat first|refine zG ?_|(refine LS.nilO ?_;intro nq hnq hltq;try refine zU ?_)|(refine MS.new ?_;intro bq hbq hbqf;try refine zU ?_)|(refine MS.nil ?_;intro nq hnq hltq;have hlq:=hltq _ _ (Hp.get_eq _ _ _);clear hltq;try refine zU ?_)|(refine LS.nilQ ?_;try with_reducible intro nq hnq;try refine zU ?_))
    refine zI ?_ ?_<;>intro h5
    · (repeat first|refine zG ?_|(refine LS.nilO ?_;intro nq hnq hltq;try refine zU ?_)|(refine MS.new ?_;intro bq hbq hbqf;try refine zU ?_)|(refine MS.nil ?_;intro nq hnq hltq;have hlq:=hltq _ _ (Hp.get_eq _ _ _);clear hltq;try refine zU ?_)|(refine LS.nilQ ?_;try with_reducible intro nq hnq;try refine zU ?_))
      exact ⟨_, H, rfl, by exact zD, by rw [cnd_4 h1 g2 g3 (fun q => h5 (by rw [hx6, hx7, hx0]; exact q.2))], rfl⟩
    · (repeat first|refine zG ?_|(refine LS.nilO ?_;intro nq hnq hltq;try refine zU ?_)|(refine MS.new ?_;intro bq hbq hbqf;try refine zU ?_)|(refine MS.nil ?_;intro nq hnq hltq;have hlq:=hltq _ _ (Hp.get_eq _ _ _);clear hltq;try refine zU ?_)|(refine LS.nilQ ?_;try with_reducible intro nq hnq;try refine zU ?_))
      exact ⟨_, H, rfl, by exact zD, by rw [cnd_0 h1 g2 g3 ⟨by rw [← hx0, ← hx5, ← hx7]; exact h4, by rw [← hx0, ← hx6, ← hx7]; exact h5⟩], rfl⟩
end Go.Proofs.YtbknndbfbebkdabGreatR
