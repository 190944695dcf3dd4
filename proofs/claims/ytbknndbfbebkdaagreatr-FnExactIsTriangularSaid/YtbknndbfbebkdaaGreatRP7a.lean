/- Contracts of the program's functions. -/
import Derived.Test.YtbknndbfbebkdaaGreatRR
import Derived.Test.YtbknndbfbebkdaaGreatRLW
import Derived.Test.YtbknndbfbebkdaaGreatRP6a
import Derived.Test.YtbknndbfbebkdaaGreatRP6b
namespace Go.Proofs.YtbknndbfbebkdaaGreatR
open Go.V
set_option linter.unusedSimpArgs false
set_option linter.unusedVariables false
set_option maxHeartbeats 4000000
/-- spec.l03Fails -/
def ir83 : Cd := (.seq (.reg [⟨some 1,none,.box 35 (.t 0)⟩,⟨some 2,none,.mov (.c (.int .i64 0))⟩]) (.seq (.reg [⟨some 4,none,.ld (some 1106) (.t 1)⟩,⟨some 5,none,.call 103 [(.t 4)]⟩,⟨some 3,none,.mov (.t 5)⟩]) (.seq (.block 0 (.seq (.reg [⟨some 7,none,.mov (.t 3)⟩,⟨some 8,none,.bin .neq (.t 7) (.c (.int .i64 0))⟩,⟨some 6,none,.mov (.t 8)⟩]) (.cond (.t 6) (.seq (.reg [⟨some 9,none,.mov (.t 3)⟩,⟨some 2,none,.mov (.t 9)⟩]) .ret) (.seq (.reg [⟨some 11,none,.ld (some 1106) (.t 1)⟩,⟨some 12,none,.fa 1042 (.t 1)⟩,⟨some 13,none,.ld (some 64) (.t 12)⟩,⟨some 14,none,.call 104 [(.t 11),(.t 13),(.c (.bool false))]⟩,⟨some 15,none,.un .not (.t 14)⟩,⟨some 10,none,.mov (.t 15)⟩]) (.cond (.t 10) (.seq (.reg [⟨some 2,none,.mov (.c (.int .i64 6))⟩]) .ret) (.seq (.reg [⟨some 17,none,.ld (some 1106) (.t 1)⟩,⟨some 18,none,.fa 1042 (.t 1)⟩,⟨some 19,none,.ld (some 64) (.t 18)⟩,⟨some 20,none,.call 104 [(.t 17),(.t 19),(.c (.bool true))]⟩,⟨some 21,none,.un .not (.t 20)⟩,⟨some 16,none,.mov (.t 21)⟩]) (.cond (.t 16) (.seq (.reg [⟨some 2,none,.mov (.c (.int .i64 7))⟩]) .ret) .skip))))))) (.seq (.reg [⟨some 2,none,.mov (.c (.int .i64 0))⟩]) .ret))))
set_option maxRecDepth 100000 in
theorem tr83 : trFn Tryz.prog Tryz.f83 = some (22, ir83, [.tmp 2]) := by kernel_rfl
theorem spec_l03Fails (h : HT) (a : Nat) (K : Nat → SV) (H : Hp) (n : Nat) (hS : HS h a) (hK : h.At K) (hB : h.By) :
    FnS Tryz.prog 83 [.arr 1106 K] H n (fun r H' _ => r = i64 (firstNot (ax h) 0 7) ∧ H' = H) := by
  have e7 := firstNot_split (ax h) 2 5 0
  have hk6 := hK.s
  refine FnS.of_body Tryz.func83 tr83 (by simp) (fun hf => ?_)
  dsimp only [argEnv]
  unfold ir83
  (repeat first|refine zG ?_|(refine LS.nilO ?_;intro nq hnq hltq;try refine zU ?_)|(refine MS.new ?_;intro bq hbq hbqf;try refine zU ?_)|(refine MS.nil ?_;intro nq hnq hltq;have hlq:=hltq _ _ (Hp.get_eq _ _ _);clear hltq;try refine zU ?_)|(refine LS.nilQ ?_;try with_reducible intro nq hnq;try refine zU ?_))
  refine RS.call rfl ((FnS.args (concs_cons (conc_arr (fun q hq => rfl)) rfl) (spec_l03Bialgebra h a K _ _ hS hK hB)).mono ?_)
  rintro r H n2 hn2 ⟨rfl, rfl⟩
  (repeat first|refine zG ?_|(refine LS.nilO ?_;intro nq hnq hltq;try refine zU ?_)|(refine MS.new ?_;intro bq hbq hbqf;try refine zU ?_)|(refine MS.nil ?_;intro nq hnq hltq;have hlq:=hltq _ _ (Hp.get_eq _ _ _);clear hltq;try refine zU ?_)|(refine LS.nilQ ?_;try with_reducible intro nq hnq;try refine zU ?_))
  refine zI ?_ ?_<;>intro h1
  · (repeat first|refine zG ?_|(refine LS.nilO ?_;intro nq hnq hltq;try refine zU ?_)|(refine MS.new ?_;intro bq hbq hbqf;try refine zU ?_)|(refine MS.nil ?_;intro nq hnq hltq;have hlq:=hltq _ _ (Hp.get_eq _ _ _);clear hltq;try refine zU ?_)|(refine LS.nilQ ?_;try with_reducible intro nq hnq;try refine zU ?_))
    exact ⟨_, H, rfl, by exact zD, by rw [e7, if_neg h1], rfl⟩
  (repeat first|refine zG ?_|(refine LS.nilO ?_;intro nq hnq hltq;try refine zU ?_)|(refine MS.new ?_;intro bq hbq hbqf;try refine zU ?_)|(refine MS.nil ?_;intro nq hnq hltq;have hlq:=hltq _ _ (Hp.get_eq _ _ _);clear hltq;try refine zU ?_)|(refine LS.nilQ ?_;try with_reducible intro nq hnq;try refine zU ?_))
  refine RS.call rfl ((FnS.args (concs_cons (conc_arr (fun q hq => rfl)) rfl) (spec_l03Antipode h a false (g6 h.p h.m h.s a) rfl K _ _ hS hK hB)).mono ?_)
  rintro r H n3 hn3 ⟨rfl, rfl⟩
  (repeat first|refine zG ?_|(refine LS.nilO ?_;intro nq hnq hltq;try refine zU ?_)|(refine MS.new ?_;intro bq hbq hbqf;try refine zU ?_)|(refine MS.nil ?_;intro nq hnq hltq;have hlq:=hltq _ _ (Hp.get_eq _ _ _);clear hltq;try refine zU ?_)|(refine LS.nilQ ?_;try with_reducible intro nq hnq;try refine zU ?_))
  refine zI ?_ ?_<;>intro h2
  · (repeat first|refine zG ?_|(refine LS.nilO ?_;intro nq hnq hltq;try refine zU ?_)|(refine MS.new ?_;intro bq hbq hbqf;try refine zU ?_)|(refine MS.nil ?_;intro nq hnq hltq;have hlq:=hltq _ _ (Hp.get_eq _ _ _);clear hltq;try refine zU ?_)|(refine LS.nilQ ?_;try with_reducible intro nq hnq;try refine zU ?_))
    exact ⟨_, H, rfl, by exact zD, by rw [e7, if_pos h1, firstNot_end (A := ax h) (fun q => h2 ((ax_fold6 hS).1 q))]; rfl, rfl⟩
  (repeat first|refine zG ?_|(refine LS.nilO ?_;intro nq hnq hltq;try refine zU ?_)|(refine MS.new ?_;intro bq hbq hbqf;try refine zU ?_)|(refine MS.nil ?_;intro nq hnq hltq;have hlq:=hltq _ _ (Hp.get_eq _ _ _);clear hltq;try refine zU ?_)|(refine LS.nilQ ?_;try with_reducible intro nq hnq;try refine zU ?_))
  refine RS.call rfl ((FnS.args (concs_cons (conc_arr (fun q hq => rfl)) rfl) (spec_l03Antipode h a true (g7 h.p h.m h.s a) rfl K _ _ hS hK hB)).mono ?_)
  rintro r H n4 hn4 ⟨rfl, rfl⟩
  (repeat first|refine zG ?_|(refine LS.nilO ?_;intro nq hnq hltq;try refine zU ?_)|(refine MS.new ?_;intro bq hbq hbqf;try refine zU ?_)|(refine MS.nil ?_;intro nq hnq hltq;have hlq:=hltq _ _ (Hp.get_eq _ _ _);clear hltq;try refine zU ?_)|(refine LS.nilQ ?_;try with_reducible intro nq hnq;try refine zU ?_))
  refine zI ?_ ?_<;>intro h3
  · (repeat first|refine zG ?_|(refine LS.nilO ?_;intro nq hnq hltq;try refine zU ?_)|(refine MS.new ?_;intro bq hbq hbqf;try refine zU ?_)|(refine MS.nil ?_;intro nq hnq hltq;have hlq:=hltq _ _ (Hp.get_eq _ _ _);clear hltq;try refine zU ?_)|(refine LS.nilQ ?_;try with_reducible intro nq hnq;try refine zU ?_))
    exact ⟨_, H, rfl, by exact zD, by rw [e7, if_pos h1, firstNot_go (A := ax h) ((ax_fold6 hS).2 h2), firstNot_end (A := ax h) (fun q => h3 ((ax_fold7 hS).1 q))]; rfl, rfl⟩
  · (repeat first|refine zG ?_|(refine LS.nilO ?_;intro nq hnq hltq;try refine zU ?_)|(refine MS.new ?_;intro bq hbq hbqf;try refine zU ?_)|(refine MS.nil ?_;intro nq hnq hltq;have hlq:=hltq _ _ (Hp.get_eq _ _ _);clear hltq;try refine zU ?_)|(refine LS.nilQ ?_;try with_reducible intro nq hnq;try refine zU ?_))
    exact ⟨_, H, rfl, by exact zD, by rw [e7, if_pos h1, firstNot_go (A := ax h) ((ax_fold6 hS).2 h2), firstNot_go (A := ax h) ((ax_fold7 hS).2 h3)]; rfl, rfl⟩
/-- spec.l03Is -/
def ir44 : Cd := (.seq (.reg [⟨some 1,none,.box 35 (.t 0)⟩,⟨some 2,none,.mov (.c (.bool false))⟩]) (.seq (.reg [⟨some 3,none,.ld (some 1106) (.t 1)⟩,⟨some 4,none,.call 82 [(.t 3)]⟩,⟨some 5,none,.mov (.t 4)⟩,⟨some 6,(some (5,true)),.ld (some 1106) (.t 1)⟩,⟨some 7,(some (5,true)),.call 83 [(.t 6)]⟩,⟨some 8,(some (5,true)),.bin .eql (.t 7) (.c (.int .i64 0))⟩,⟨some 9,none,.pick (.t 5) (.t 8) (.c (.bool false))⟩,⟨some 2,none,.mov (.t 9)⟩]) .ret))
set_option maxRecDepth 100000 in
theorem tr44 : trFn Tryz.prog Tryz.f44 = some (10, ir44, [.tmp 2]) := by kernel_rfl
theorem spec_l03Is (h : HT) (K : Nat → SV) (H : Hp) (n : Nat) (hK : h.At K) (hB : h.By) :
    FnS Tryz.prog 44 [.arr 1106 K] H n (fun r H' _ => r = bl (tb (isHopf h)) ∧ H' = H) := by
  refine FnS.of_body Tryz.func44 tr44 (by simp) (fun hf => ?_)
  dsimp only [argEnv]
  unfold ir44
  (repeat first|refine zG ?_|(refine LS.nilO ?_;intro nq hnq hltq;try refine zU ?_)|(refine MS.new ?_;intro bq hbq hbqf;try refine zU ?_)|(refine MS.nil ?_;intro nq hnq hltq;have hlq:=hltq _ _ (Hp.get_eq _ _ _);clear hltq;try refine zU ?_)|(refine LS.nilQ ?_;try with_reducible intro nq hnq;try refine zU ?_))
  refine RS.call rfl ((FnS.args (concs_cons (conc_arr (fun q hq => rfl)) rfl) (spec_l03Shape h K _ _ hK hB)).mono ?_)
  rintro r H n2 hn2 ⟨rfl, rfl⟩
  (repeat first|refine zG ?_|(refine LS.nilO ?_;intro nq hnq hltq;try refine zU ?_)|(refine MS.new ?_;intro bq hbq hbqf;try refine zU ?_)|(refine MS.nil ?_;intro nq hnq hltq;have hlq:=hltq _ _ (Hp.get_eq _ _ _);clear hltq;try refine zU ?_)|(refine LS.nilQ ?_;try with_reducible intro nq hnq;try refine zU ?_))
  refine RS.sp (t := 5) rfl (fun h1 => ?_) (fun h1 => ?_) <;> (try simp only [tb_eq, tb_eqF, decide_eq_true_eq, decide_eq_false_iff_not, beq_iff_eq, bne_iff_ne, ne_eq, Decidable.not_not, beq_eq_false_iff_ne, bne_eq_false_iff_eq, Bool.not_eq_true', Bool.not_eq_false', Bool.not_eq_eq_eq_not, Bool.not_true, Bool.not_false] at h1)
  · obtain ⟨a, hS⟩ := h1.hs
    (repeat first|refine zG ?_|(refine LS.nilO ?_;intro nq hnq hltq;try refine zU ?_)|(refine MS.new ?_;intro bq hbq hbqf;try refine zU ?_)|(refine MS.nil ?_;intro nq hnq hltq;have hlq:=hltq _ _ (Hp.get_eq _ _ _);clear hltq;try refine zU ?_)|(refine LS.nilQ ?_;try with_reducible intro nq hnq;try refine zU ?_))
    refine RS.call rfl ((FnS.args (concs_cons (conc_arr (fun q hq => rfl)) rfl) (spec_l03Fails h a K _ _ hS hK hB)).mono ?_)
    rintro r H n3 hn3 ⟨rfl, rfl⟩
    (repeat first|refine zG ?_|(refine LS.nilO ?_;intro nq hnq hltq;try refine zU ?_)|(refine MS.new ?_;intro bq hbq hbqf;try refine zU ?_)|(refine MS.nil ?_;intro nq hnq hltq;have hlq:=hltq _ _ (Hp.get_eq _ _ _);clear hltq;try refine zU ?_)|(refine LS.nilQ ?_;try with_reducible intro nq hnq;try refine zU ?_))
    exact ⟨_, H, rfl, by exact zD, by rw [tb_iff (R := firstNot (ax h) 0 7 = 0) ⟨fun q => q.2, fun q => ⟨h1, q⟩⟩, tb_dec]; rfl, rfl⟩
  · (repeat first|refine zG ?_|(refine LS.nilO ?_;intro nq hnq hltq;try refine zU ?_)|(refine MS.new ?_;intro bq hbq hbqf;try refine zU ?_)|(refine MS.nil ?_;intro nq hnq hltq;have hlq:=hltq _ _ (Hp.get_eq _ _ _);clear hltq;try refine zU ?_)|(refine LS.nilQ ?_;try with_reducible intro nq hnq;try refine zU ?_))
    exact ⟨_, H, rfl, by exact zD, by rw [tb_false (fun q => h1 q.1)], rfl⟩
/-- spec.l09Code -/
def ir35 : Cd := (.seq (.reg [⟨some 3,none,.box 35 (.t 0)⟩,⟨some 6,none,.mov (.c (.int .i64 0))⟩]) (.seq (.seq (.reg [⟨some 8,none,.ld (some 1106) (.t 3)⟩,⟨some 9,none,.call 44 [(.t 8)]⟩,⟨some 10,none,.un .not (.t 9)⟩]) (.cond (.t 10) (.seq (.reg [⟨some 6,none,.mov (.c (.int .i64 1))⟩]) .ret) .skip)) (.seq (.seq (.reg [⟨some 7,none,.mov (.c (.int .i64 0))⟩]) (.block 0 (.loop (.seq (.seq (.reg [⟨some 11,none,.mov (.t 7)⟩,⟨some 12,none,.mov (.t 2)⟩,⟨some 13,none,.len (.t 12)⟩,⟨some 14,none,.bin .lss (.t 11) (.t 13)⟩]) (.cond (.t 14) .skip (.exit 0))) (.seq (.block 1 (.seq (.drw true [8] [⟨some 17,none,.fa 0 (.t 3)⟩,⟨some 18,none,.ld none (.t 17)⟩,⟨some 19,none,.fa 1 (.t 3)⟩,⟨some 20,none,.ld none (.t 19)⟩,⟨some 21,none,.mov (.t 2)⟩,⟨some 22,none,.mov (.t 7)⟩,⟨some 23,none,.isl 64 (.t 21) (.t 22)⟩,⟨some 24,none,.ld (some 64) (.t 23)⟩,⟨some 25,none,.call 45 [(.t 18),(.t 20),(.t 24)]⟩,⟨some 26,none,.un .not (.t 25)⟩]) (.cond (.t 26) (.seq (.reg [⟨some 6,none,.mov (.c (.int .i64 1))⟩]) .ret) .skip))) (.reg [⟨some 15,none,.mov (.t 7)⟩,⟨some 16,none,.bin .add (.t 15) (.c (.int .i64 1))⟩,⟨some 7,none,.mov (.t 16)⟩])))))) (.seq (.seq (.drw true [6] [⟨some 27,none,.mov (.t 1)⟩,⟨some 28,none,.mov (.t 27)⟩,⟨some 29,(some (28,true)),.ld (some 1106) (.t 3)⟩,⟨some 30,(some (28,true)),.mov (.t 2)⟩,⟨some 31,(some (28,true)),.isl 64 (.t 30) (.c (.int .i64 0))⟩,⟨some 32,(some (28,true)),.ld (some 64) (.t 31)⟩,⟨some 33,(some (28,true)),.call 36 [(.t 29),(.t 32)]⟩,⟨some 34,(some (28,true)),.bin .neq (.t 33) (.c (.int .i64 0))⟩,⟨some 35,none,.pick (.t 28) (.t 34) (.c (.bool false))⟩]) (.cond (.t 35) (.seq (.reg [⟨some 6,none,.mov (.c (.int .i64 5))⟩]) .ret) .skip)) (.seq (.reg [⟨some 6,none,.mov (.c (.int .i64 0))⟩]) .ret)))))
set_option maxRecDepth 100000 in
theorem tr35 : trFn Tryz.prog Tryz.f35 = some (36, ir35, [.tmp 6]) := by kernel_rfl
theorem spec_l09Code (h : HT) (v : SV) (len : Nat) (hl : len ≤ 100) (w : Nat → Nat → Int) (K : Nat → SV) (H : Hp) (n : Nat) (hK : h.At K) (hB : h.By) (hv : mlv H v len w) (hw : ∀ i, i < len → isBy 64 (w i)) :
    FnS Tryz.prog 35 [.arr 1106 K, bl false, .s v] H n (fun r H' _ => r = i64 (cd (mok h len w)) ∧ H' = H) := by
  have hk0 := hK.p
  have hk1 := hK.n
  obtain ⟨bl1, cc, Kl, rfl, hbl, hsl, hcl⟩ := hv
  refine FnS.of_body Tryz.func35 tr35 (by simp) (fun hf => ?_)
  dsimp only [argEnv]
  unfold ir35
  have hbn := getlt hf hbl
  (repeat first|refine zG ?_|(refine LS.nilO ?_;intro nq hnq hltq;try refine zU ?_)|(refine MS.new ?_;intro bq hbq hbqf;try refine zU ?_)|(refine MS.nil ?_;intro nq hnq hltq;have hlq:=hltq _ _ (Hp.get_eq _ _ _);clear hltq;try refine zU ?_)|(refine LS.nilQ ?_;try with_reducible intro nq hnq;try refine zU ?_))
  refine RS.call rfl ((FnS.args (concs_cons (conc_arr (fun q hq => rfl)) rfl) (spec_l03Is h K _ _ hK hB)).mono ?_)
  rintro r H' n2 hn2 ⟨rfl, rfl⟩
  (repeat first|refine zG ?_|(refine LS.nilO ?_;intro nq hnq hltq;try refine zU ?_)|(refine MS.new ?_;intro bq hbq hbqf;try refine zU ?_)|(refine MS.nil ?_;intro nq hnq hltq;have hlq:=hltq _ _ (Hp.get_eq _ _ _);clear hltq;try refine zU ?_)|(refine LS.nilQ ?_;try with_reducible intro nq hnq;try refine zU ?_))
  refine zI ?_ ?_<;>intro h1
  · (repeat first|refine zG ?_|(refine LS.nilO ?_;intro nq hnq hltq;try refine zU ?_)|(refine MS.new ?_;intro bq hbq hbqf;try refine zU ?_)|(refine MS.nil ?_;intro nq hnq hltq;have hlq:=hltq _ _ (Hp.get_eq _ _ _);clear hltq;try refine zU ?_)|(refine LS.nilQ ?_;try with_reducible intro nq hnq;try refine zU ?_))
    exact ⟨_, H, rfl, by exact zD, by rw [cd_false (fun q : mok h len w => h1 q.1)], rfl⟩
  (repeat first|refine zG ?_|(refine LS.nilO ?_;intro nq hnq hltq;try refine zU ?_)|(refine MS.new ?_;intro bq hbq hbqf;try refine zU ?_)|(refine MS.nil ?_;intro nq hnq hltq;have hlq:=hltq _ _ (Hp.get_eq _ _ _);clear hltq;try refine zU ?_)|(refine LS.nilQ ?_;try with_reducible intro nq hnq;try refine zU ?_))
  refine CS.iter len (fun i => [(7, i64 i), (2, .s (.slc bl1 0 len cc)), (1, bl false), (3, ptr n 0)]) (fun _ => (n, ⟨1106, K, 35⟩) :: H) (fun i => ∀ j, j < i → isLin h.p h.n h.n (w j)) (by (repeat first | exact trivial | refine And.intro rfl ?_)) (Drops.refl _ _) (fun _ h => by omega) ?_
  intro i n3 hi hn hJ
  (repeat first|refine zG ?_|(refine LS.nilO ?_;intro nq hnq hltq;try refine zU ?_)|(refine MS.new ?_;intro bq hbq hbqf;try refine zU ?_)|(refine MS.nil ?_;intro nq hnq hltq;have hlq:=hltq _ _ (Hp.get_eq _ _ _);clear hltq;try refine zU ?_)|(refine LS.nilQ ?_;try with_reducible intro nq hnq;try refine zU ?_))
  refine zI ?_ ?_<;>intro h2
  · have hr := hcl i (by omega)
    (repeat first|refine zG ?_|(refine LS.nilO ?_;intro nq hnq hltq;try refine zU ?_)|(refine MS.new ?_;intro bq hbq hbqf;try refine zU ?_)|(refine MS.nil ?_;intro nq hnq hltq;have hlq:=hltq _ _ (Hp.get_eq _ _ _);clear hltq;try refine zU ?_)|(refine LS.nilQ ?_;try with_reducible intro nq hnq;try refine zU ?_))
    refine RS.call rfl ((spec_l01Linear h.p h.n (w i) _ _ (hw i (by omega))).mono ?_)
    rintro r H' n4 hn4 ⟨rfl, rfl⟩
    (repeat first|refine zG ?_|(refine LS.nilO ?_;intro nq hnq hltq;try refine zU ?_)|(refine MS.new ?_;intro bq hbq hbqf;try refine zU ?_)|(refine MS.nil ?_;intro nq hnq hltq;have hlq:=hltq _ _ (Hp.get_eq _ _ _);clear hltq;try refine zU ?_)|(refine LS.nilQ ?_;try with_reducible intro nq hnq;try refine zU ?_))
    refine zI ?_ ?_<;>intro h3
    · (repeat first|refine zG ?_|(refine LS.nilO ?_;intro nq hnq hltq;try refine zU ?_)|(refine MS.new ?_;intro bq hbq hbqf;try refine zU ?_)|(refine MS.nil ?_;intro nq hnq hltq;have hlq:=hltq _ _ (Hp.get_eq _ _ _);clear hltq;try refine zU ?_)|(refine LS.nilQ ?_;try with_reducible intro nq hnq;try refine zU ?_))
      exact ⟨_, H, rfl, by exact zD, by rw [cd_false (fun q : mok h len w => h3 (q.2 i (by omega)))], rfl⟩
    · (repeat first|refine zG ?_|(refine LS.nilO ?_;intro nq hnq hltq;try refine zU ?_)|(refine MS.new ?_;intro bq hbq hbqf;try refine zU ?_)|(refine MS.nil ?_;intro nq hnq hltq;have hlq:=hltq _ _ (Hp.get_eq _ _ _);clear hltq;try refine zU ?_)|(refine LS.nilQ ?_;try with_reducible intro nq hnq;try refine zU ?_))
      refine ⟨by omega, by (repeat first | exact trivial | refine And.intro rfl ?_), Drops.refl _ _, fun j hj => ?_⟩
      by_cases e : j = i
      · subst e; exact h3
      · exact hJ j (by omega)
  · have : i = len := by omega
    subst this
    (repeat first|refine zG ?_|(refine LS.nilO ?_;intro nq hnq hltq;try refine zU ?_)|(refine MS.new ?_;intro bq hbq hbqf;try refine zU ?_)|(refine MS.nil ?_;intro nq hnq hltq;have hlq:=hltq _ _ (Hp.get_eq _ _ _);clear hltq;try refine zU ?_)|(refine LS.nilQ ?_;try with_reducible intro nq hnq;try refine zU ?_))
    exact ⟨_, H, rfl, by exact zD, by rw [cd_true (show mok h i w from ⟨h1, hJ⟩)], rfl⟩
/-- spec.IsUniversal -/
def ir17 : Cd := (.seq (.reg [⟨some 2,none,.box 35 (.t 0)⟩,⟨some 3,none,.box 31 (.t 1)⟩,⟨some 4,none,.mov (.c (.bool false))⟩,⟨some 5,none,.mov (.c (.int .i64 0))⟩]) (.seq (.seq (.reg [⟨some 7,none,.ld (some 1106) (.t 2)⟩,⟨some 8,none,.ld (some 64) (.t 3)⟩,⟨some 9,none,.bsl 31 1 64 [(64,(.int .u8 0))] [(0,64,(.t 8))]⟩,⟨some 10,none,.call 35 [(.t 7),(.c (.bool false)),(.t 9)]⟩,⟨some 6,none,.mov (.t 10)⟩]) (.seq (.reg [⟨some 11,none,.mov (.t 6)⟩,⟨some 12,none,.bin .neq (.t 11) (.c (.int .i64 0))⟩]) (.cond (.t 12) (.seq (.reg [⟨some 13,none,.mov (.t 6)⟩,⟨some 4,none,.mov (.c (.bool false))⟩,⟨some 5,none,.mov (.t 13)⟩]) .ret) .skip))) (.seq (.reg [⟨some 14,none,.ld (some 1106) (.t 2)⟩,⟨some 15,none,.ld (some 64) (.t 3)⟩,⟨some 16,none,.call 36 [(.t 14),(.t 15)]⟩,⟨some 17,none,.bin .eql (.t 16) (.c (.int .i64 0))⟩,⟨some 4,none,.mov (.t 17)⟩,⟨some 5,none,.mov (.c (.int .i64 0))⟩]) .ret)))
set_option maxRecDepth 100000 in
theorem tr17 : trFn Tryz.prog Tryz.f17 = some (18, ir17, [.tmp 4, .tmp 5]) := by kernel_rfl
theorem spec_IsUniversal (h : HT) (s : Nat → Int) (K : Nat → SV) (H : Hp) (n : Nat) (hK : h.At K) (hB : h.By) (hs : isBy 64 s) :
    FnS Tryz.prog 17 [.arr 1106 K, .arr 64 (bys s)] H n (fun r H' _ => r = .tup [bl (tb (mok h 1 (fun _ => s) ∧ cnd h h.N s = 0)), i64 (cd (mok h 1 (fun _ => s)))] ∧ H' = H) := by
  have hk0 := hK.p
  have hk1 := hK.n
  refine FnS.of_body Tryz.func17 tr17 (by simp) (fun hf => ?_)
  dsimp only [argEnv]
  unfold ir17
  (repeat first|refine zG ?_|(refine LS.nilO ?_;intro nq hnq hltq;try refine zU ?_)|(refine MS.new ?_;intro bq hbq hbqf;try refine zU ?_)|(refine MS.nil ?_;intro nq hnq hltq;have hlq:=hltq _ _ (Hp.get_eq _ _ _);clear hltq;try refine zU ?_)|(refine LS.nilQ ?_;try with_reducible intro nq hnq;try refine zU ?_))
  refine RS.call rfl ((FnS.args (concs_cons (conc_arr (fun q hq => rfl)) rfl) (spec_l09Code h (.slc (n + 2) 0 1 1) 1 (by omega) (fun _ => s) K _ _ hK hB ⟨n + 2, 1, _, rfl, by exact zH, (by simp), fun i hi q hq => by (obtain rfl : i = 0 := by omega); (try dsimp only); rw [show 0 + 0 * 64 + q = 0 + q by omega]; exact (splice_at _ _ 0 64 q hq).trans (by first | rfl | (simp only [Nat.zero_add]; rfl))⟩ (fun _ _ => hs))).mono ?_)
  rintro r H' n2 hn2 ⟨rfl, rfl⟩
  (repeat first|refine zG ?_|(refine LS.nilO ?_;intro nq hnq hltq;try refine zU ?_)|(refine MS.new ?_;intro bq hbq hbqf;try refine zU ?_)|(refine MS.nil ?_;intro nq hnq hltq;have hlq:=hltq _ _ (Hp.get_eq _ _ _);clear hltq;try refine zU ?_)|(refine LS.nilQ ?_;try with_reducible intro nq hnq;try refine zU ?_))
  refine zI ?_ ?_<;>intro h1
  · have h3 : ¬mok h 1 (fun _ => s) := fun q => h1 (cd_zero.2 q)
    (repeat first|refine zG ?_|(refine LS.nilO ?_;intro nq hnq hltq;try refine zU ?_)|(refine MS.new ?_;intro bq hbq hbqf;try refine zU ?_)|(refine MS.nil ?_;intro nq hnq hltq;have hlq:=hltq _ _ (Hp.get_eq _ _ _);clear hltq;try refine zU ?_)|(refine LS.nilQ ?_;try with_reducible intro nq hnq;try refine zU ?_))
    exact ⟨.tup [bl (tb (mok h 1 (fun _ => s) ∧ cnd h h.N s = 0)), i64 (cd (mok h 1 (fun _ => s)))], H, conc_tup2 (by rw [tb_false (fun q => h3 q.1)]) rfl, by exact zD, rfl, rfl⟩
  · have h3 : mok h 1 (fun _ => s) := cd_zero.1 h1
    obtain ⟨a, hS⟩ := isHopf.hs h3.1
    have hN := hS.N
    subst hN
    have hz0 := h3.lz hS (show 0 < 1 by omega)
    rw [hS.hn] at hk1
    (repeat first|refine zG ?_|(refine LS.nilO ?_;intro nq hnq hltq;try refine zU ?_)|(refine MS.new ?_;intro bq hbq hbqf;try refine zU ?_)|(refine MS.nil ?_;intro nq hnq hltq;have hlq:=hltq _ _ (Hp.get_eq _ _ _);clear hltq;try refine zU ?_)|(refine LS.nilQ ?_;try with_reducible intro nq hnq;try refine zU ?_))
    obtain ⟨x0, hx0⟩ : ∃ x, x = cnd h h.N s := ⟨_, rfl⟩
    refine RS.call rfl ((FnS.args (concs_cons (conc_arr (fun q hq => rfl)) rfl) (spec_l09Fails h s K _ _ hS h3.1 hK hB hs hz0)).mono ?_)
    rw [← hx0]
    rintro r H' n4 hn4 ⟨rfl, rfl⟩
    (repeat first|refine zG ?_|(refine LS.nilO ?_;intro nq hnq hltq;try refine zU ?_)|(refine MS.new ?_;intro bq hbq hbqf;try refine zU ?_)|(refine MS.nil ?_;intro nq hnq hltq;have hlq:=hltq _ _ (Hp.get_eq _ _ _);clear hltq;try refine zU ?_)|(refine LS.nilQ ?_;try with_reducible intro nq hnq;try refine zU ?_))
    exact ⟨.tup [bl (tb (mok h 1 (fun _ => s) ∧ cnd h h.N s = 0)), i64 (cd (mok h 1 (fun _ => s)))], H, conc_tup2 (congrArg AV.conc (congrArg bl (by rw [beq_tb h3, hx0]))) (by rw [cd_true h3]), by exact zD, by (try subst hx0); (try subst hx5); (try subst hx7); rfl, rfl⟩
/-- spec.ConditionThatFails -/
def ir15 : Cd := (.seq (.reg [⟨some 2,none,.box 35 (.t 0)⟩,⟨some 3,none,.box 31 (.t 1)⟩,⟨some 4,none,.mov (.c (.int .i64 0))⟩,⟨some 5,none,.mov (.c (.int .i64 0))⟩]) (.seq (.seq (.reg [⟨some 7,none,.ld (some 1106) (.t 2)⟩,⟨some 8,none,.ld (some 64) (.t 3)⟩,⟨some 9,none,.bsl 31 1 64 [(64,(.int .u8 0))] [(0,64,(.t 8))]⟩,⟨some 10,none,.call 35 [(.t 7),(.c (.bool false)),(.t 9)]⟩,⟨some 6,none,.mov (.t 10)⟩]) (.seq (.reg [⟨some 11,none,.mov (.t 6)⟩,⟨some 12,none,.bin .neq (.t 11) (.c (.int .i64 0))⟩]) (.cond (.t 12) (.seq (.reg [⟨some 13,none,.mov (.t 6)⟩,⟨some 4,none,.mov (.c (.int .i64 0))⟩,⟨some 5,none,.mov (.t 13)⟩]) .ret) .skip))) (.seq (.reg [⟨some 14,none,.ld (some 1106) (.t 2)⟩,⟨some 15,none,.ld (some 64) (.t 3)⟩,⟨some 16,none,.call 36 [(.t 14),(.t 15)]⟩,⟨some 4,none,.mov (.t 16)⟩,⟨some 5,none,.mov (.c (.int .i64 0))⟩]) .ret)))
set_option maxRecDepth 100000 in
theorem tr15 : trFn Tryz.prog Tryz.f15 = some (17, ir15, [.tmp 4, .tmp 5]) := by kernel_rfl
theorem spec_ConditionThatFails (h : HT) (s : Nat → Int) (K : Nat → SV) (H : Hp) (n : Nat) (hK : h.At K) (hB : h.By) (hs : isBy 64 s) :
    FnS Tryz.prog 15 [.arr 1106 K, .arr 64 (bys s)] H n (fun r H' _ => r = .tup [i64 (val (mok h 1 (fun _ => s)) (fun _ => cnd h h.N s) 0), i64 (cd (mok h 1 (fun _ => s)))] ∧ H' = H) := by
  have hk0 := hK.p
  have hk1 := hK.n
  refine FnS.of_body Tryz.func15 tr15 (by simp) (fun hf => ?_)
  dsimp only [argEnv]
  unfold ir15
  (repeat first|refine zG ?_|(refine LS.nilO ?_;intro nq hnq hltq;try refine zU ?_)|(refine MS.new ?_;intro bq hbq hbqf;try refine zU ?_)|(refine MS.nil ?_;intro nq hnq hltq;have hlq:=hltq _ _ (Hp.get_eq _ _ _);clear hltq;try refine zU ?_)|(refine LS.nilQ ?_;try with_reducible intro nq hnq;try refine zU ?_))
  refine RS.call rfl ((FnS.args (concs_cons (conc_arr (fun q hq => rfl)) rfl) (spec_l09Code h (.slc (n + 2) 0 1 1) 1 (by omega) (fun _ => s) K _ _ hK hB ⟨n + 2, 1, _, rfl, by exact zH, (by simp), fun i hi q hq => by (obtain rfl : i = 0 := by omega); (try dsimp only); rw [show 0 + 0 * 64 + q = 0 + q by omega]; exact (splice_at _ _ 0 64 q hq).trans (by first | rfl | (simp only [Nat.zero_add]; rfl))⟩ (fun _ _ => hs))).mono ?_)
  rintro r H' n2 hn2 ⟨rfl, rfl⟩
  (repeat first|refine zG ?_|(refine LS.nilO ?_;intro nq hnq hltq;try refine zU ?_)|(refine MS.new ?_;intro bq hbq hbqf;try refine zU ?_)|(refine MS.nil ?_;intro nq hnq hltq;have hlq:=hltq _ _ (Hp.get_eq _ _ _);clear hltq;try refine zU ?_)|(refine LS.nilQ ?_;try with_reducible intro nq hnq;try refine zU ?_))
  refine zI ?_ ?_<;>intro h1
  · have h3 : ¬mok h 1 (fun _ => s) := fun q => h1 (cd_zero.2 q)
    (repeat first|refine zG ?_|(refine LS.nilO ?_;intro nq hnq hltq;try refine zU ?_)|(refine MS.new ?_;intro bq hbq hbqf;try refine zU ?_)|(refine MS.nil ?_;intro nq hnq hltq;have hlq:=hltq _ _ (Hp.get_eq _ _ _);clear hltq;try refine zU ?_)|(refine LS.nilQ ?_;try with_reducible intro nq hnq;try refine zU ?_))
    exact ⟨.tup [i64 (val (mok h 1 (fun _ => s)) (fun _ => cnd h h.N s) 0), i64 (cd (mok h 1 (fun _ => s)))], H, conc_tup2 (by rw [val_false h3]) rfl, by exact zD, rfl, rfl⟩
  · have h3 : mok h 1 (fun _ => s) := cd_zero.1 h1
    obtain ⟨a, hS⟩ := isHopf.hs h3.1
    have hN := hS.N
    subst hN
    have hz0 := h3.lz hS (show 0 < 1 by omega)
    rw [hS.hn] at hk1
    (repeat first|refine zG ?_|(refine LS.nilO ?_;intro nq hnq hltq;try refine zU ?_)|(refine MS.new ?_;intro bq hbq hbqf;try refine zU ?_)|(refine MS.nil ?_;intro nq hnq hltq;have hlq:=hltq _ _ (Hp.get_eq _ _ _);clear hltq;try refine zU ?_)|(refine LS.nilQ ?_;try with_reducible intro nq hnq;try refine zU ?_))
    obtain ⟨x0, hx0⟩ : ∃ x, x = cnd h h.N s := ⟨_, rfl⟩
    refine RS.call rfl ((FnS.args (concs_cons (conc_arr (fun q hq => rfl)) rfl) (spec_l09Fails h s K _ _ hS h3.1 hK hB hs hz0)).mono ?_)
    rw [← hx0]
    rintro r H' n4 hn4 ⟨rfl, rfl⟩
    (repeat first|refine zG ?_|(refine LS.nilO ?_;intro nq hnq hltq;try refine zU ?_)|(refine MS.new ?_;intro bq hbq hbqf;try refine zU ?_)|(refine MS.nil ?_;intro nq hnq hltq;have hlq:=hltq _ _ (Hp.get_eq _ _ _);clear hltq;try refine zU ?_)|(refine LS.nilQ ?_;try with_reducible intro nq hnq;try refine zU ?_))
    exact ⟨.tup [i64 (val (mok h 1 (fun _ => s)) (fun _ => cnd h h.N s) 0), i64 (cd (mok h 1 (fun _ => s)))], H, conc_tup2 (by rw [val_true h3, hx0]) (by rw [cd_true h3]), by exact zD, by (try subst hx0); (try subst hx5); (try subst hx7); rfl, rfl⟩
/-- spec.IsTriangular -/
def ir19 : Cd := (.seq (.reg [⟨some 2,none,.box 35 (.t 0)⟩,⟨some 3,none,.box 31 (.t 1)⟩,⟨some 4,none,.mov (.c (.bool false))⟩,⟨some 5,none,.mov (.c (.int .i64 0))⟩]) (.seq (.seq (.reg [⟨some 7,none,.ld (some 1106) (.t 2)⟩,⟨some 8,none,.ld (some 64) (.t 3)⟩,⟨some 9,none,.bsl 31 1 64 [(64,(.int .u8 0))] [(0,64,(.t 8))]⟩,⟨some 10,none,.call 35 [(.t 7),(.c (.bool false)),(.t 9)]⟩,⟨some 6,none,.mov (.t 10)⟩]) (.seq (.reg [⟨some 11,none,.mov (.t 6)⟩,⟨some 12,none,.bin .neq (.t 11) (.c (.int .i64 0))⟩]) (.cond (.t 12) (.seq (.reg [⟨some 13,none,.mov (.t 6)⟩,⟨some 4,none,.mov (.c (.bool false))⟩,⟨some 5,none,.mov (.t 13)⟩]) .ret) .skip))) (.seq (.drwo true [13] [0,1,2,3,4,5,6,7,8,10,12,9,11,13,14,15,16,17] [⟨some 14,none,.ld (some 1106) (.t 2)⟩,⟨some 15,none,.ld (some 64) (.t 3)⟩,⟨some 16,none,.call 36 [(.t 14),(.t 15)]⟩,⟨some 17,none,.bin .eql (.t 16) (.c (.int .i64 0))⟩,⟨some 18,none,.mov (.t 17)⟩,⟨some 19,(some (18,true)),.ld (some 1106) (.t 2)⟩,⟨some 20,(some (18,true)),.fa 1 (.t 2)⟩,⟨some 21,(some (18,true)),.ld none (.t 20)⟩,⟨some 22,(some (18,true)),.ld (some 64) (.t 3)⟩,⟨some 23,(some (18,true)),.call 39 [(.t 21),(.t 22)]⟩,⟨some 24,(some (18,true)),.ld (some 64) (.t 3)⟩,⟨some 25,(some (18,true)),.call 38 [(.t 19),(.t 23),(.t 24)]⟩,⟨some 26,(some (18,true)),.ld (some 1106) (.t 2)⟩,⟨some 27,(some (18,true)),.call 40 [(.t 26)]⟩,⟨some 28,(some (18,true)),.eqa false 64 (.t 25) (.t 27)⟩,⟨some 29,none,.pick (.t 18) (.t 28) (.c (.bool false))⟩,⟨some 4,none,.mov (.t 29)⟩,⟨some 5,none,.mov (.c (.int .i64 0))⟩]) .ret)))
set_option maxRecDepth 100000 in
theorem tr19 : trFn Tryz.prog Tryz.f19 = some (30, ir19, [.tmp 4, .tmp 5]) := by kernel_rfl
theorem spec_IsTriangular (h : HT) (s : Nat → Int) (K : Nat → SV) (H : Hp) (n : Nat) (hK : h.At K) (hB : h.By) (hs : isBy 64 s) :
    FnS Tryz.prog 19 [.arr 1106 K, .arr 64 (bys s)] H n (fun r H' _ => r = .tup [bl (tb (mok h 1 (fun _ => s) ∧ cnd h h.N s = 0 ∧ ∀ q, q < 64 → ten h.p h.m (trn s) s q = outer h.p h.u h.u q)), i64 (cd (mok h 1 (fun _ => s)))] ∧ H' = H) := by
  have hk0 := hK.p
  have hk1 := hK.n
  refine FnS.of_body Tryz.func19 tr19 (by simp) (fun hf => ?_)
  dsimp only [argEnv]
  unfold ir19
  (repeat first|refine zG ?_|(refine LS.nilO ?_;intro nq hnq hltq;try refine zU ?_)|(refine MS.new ?_;intro bq hbq hbqf;try refine zU ?_)|(refine MS.nil ?_;intro nq hnq hltq;have hlq:=hltq _ _ (Hp.get_eq _ _ _);clear hltq;try refine zU ?_)|(refine LS.nilQ ?_;try with_reducible intro nq hnq;try refine zU ?_))
  refine RS.call rfl ((FnS.args (concs_cons (conc_arr (fun q hq => rfl)) rfl) (spec_l09Code h (.slc (n + 2) 0 1 1) 1 (by omega) (fun _ => s) K _ _ hK hB ⟨n + 2, 1, _, rfl, by exact zH, (by simp), fun i hi q hq => by (obtain rfl : i = 0 := by omega); (try dsimp only); rw [show 0 + 0 * 64 + q = 0 + q by omega]; exact (splice_at _ _ 0 64 q hq).trans (by first | rfl | (simp only [Nat.zero_add]; rfl))⟩ (fun _ _ => hs))).mono ?_)
  rintro r H' n2 hn2 ⟨rfl, rfl⟩
  (repeat first|refine zG ?_|(refine LS.nilO ?_;intro nq hnq hltq;try refine zU ?_)|(refine MS.new ?_;intro bq hbq hbqf;try refine zU ?_)|(refine MS.nil ?_;intro nq hnq hltq;have hlq:=hltq _ _ (Hp.get_eq _ _ _);clear hltq;try refine zU ?_)|(refine LS.nilQ ?_;try with_reducible intro nq hnq;try refine zU ?_))
  refine zI ?_ ?_<;>intro h1
  · have h3 : ¬mok h 1 (fun _ => s) := fun q => h1 (cd_zero.2 q)
    (repeat first|refine zG ?_|(refine LS.nilO ?_;intro nq hnq hltq;try refine zU ?_)|(refine MS.new ?_;intro bq hbq hbqf;try refine zU ?_)|(refine MS.nil ?_;intro nq hnq hltq;have hlq:=hltq _ _ (Hp.get_eq _ _ _);clear hltq;try refine zU ?_)|(refine LS.nilQ ?_;try with_reducible intro nq hnq;try refine zU ?_))
    exact ⟨.tup [bl (tb (mok h 1 (fun _ => s) ∧ cnd h h.N s = 0 ∧ ∀ q, q < 64 → ten h.p h.m (trn s) s q = outer h.p h.u h.u q)), i64 (cd (mok h 1 (fun _ => s)))], H, conc_tup2 (by rw [tb_false (fun q => h3 q.1)]) rfl, by exact zD, rfl, rfl⟩
  · have h3 : mok h 1 (fun _ => s) := cd_zero.1 h1
    obtain ⟨a, hS⟩ := isHopf.hs h3.1
    have hN := hS.N
    subst hN
    have hz0 := h3.lz hS (show 0 < 1 by omega)
    rw [hS.hn] at hk1
    (repeat first|refine zG ?_|(refine LS.nilO ?_;intro nq hnq hltq;try refine zU ?_)|(refine MS.new ?_;intro bq hbq hbqf;try refine zU ?_)|(refine MS.nil ?_;intro nq hnq hltq;have hlq:=hltq _ _ (Hp.get_eq _ _ _);clear hltq;try refine zU ?_)|(refine LS.nilQ ?_;try with_reducible intro nq hnq;try refine zU ?_))
    refine CS.quietLo ?_
    (repeat first|refine zG ?_|(refine LS.nilO ?_;intro nq hnq hltq;try refine zU ?_)|(refine MS.new ?_;intro bq hbq hbqf;try refine zU ?_)|(refine MS.nil ?_;intro nq hnq hltq;have hlq:=hltq _ _ (Hp.get_eq _ _ _);clear hltq;try refine zU ?_)|(refine LS.nilQ ?_;try with_reducible intro nq hnq;try refine zU ?_))
    obtain ⟨x0, hx0⟩ : ∃ x, x = cnd h h.N s := ⟨_, rfl⟩
    refine LS.callQ (i64 x0) rfl (fun n' hn' => by rw [hx0]; exact FnS.args (concs_cons (conc_arr (fun q hq => rfl)) rfl) (spec_l09Fails h s K _ _ hS h3.1 hK hB hs hz0)) ?_
    (repeat first|refine zG ?_|(refine LS.nilO ?_;intro nq hnq hltq;try refine zU ?_)|(refine MS.new ?_;intro bq hbq hbqf;try refine zU ?_)|(refine MS.nil ?_;intro nq hnq hltq;have hlq:=hltq _ _ (Hp.get_eq _ _ _);clear hltq;try refine zU ?_)|(refine LS.nilQ ?_;try with_reducible intro nq hnq;try refine zU ?_))
    obtain ⟨x5, hx5⟩ : ∃ x, x = ten h.p h.m (trn s) s := ⟨_, rfl⟩
    obtain ⟨x7, hx7⟩ : ∃ x, x = outer h.p h.u h.u := ⟨_, rfl⟩
    have htr : isBy 64 (trn s) := fun q hq => hs _ (by omega)
    refine RS.sp (t := 18) rfl (fun h5 => ?_) (fun h5 => ?_) <;> (try simp only [tb_eq, tb_eqF, decide_eq_true_eq, decide_eq_false_iff_not, beq_iff_eq, bne_iff_ne, ne_eq, Decidable.not_not, beq_eq_false_iff_ne, bne_eq_false_iff_eq, Bool.not_eq_true', Bool.not_eq_false', Bool.not_eq_eq_eq_not, Bool.not_true, Bool.not_false] at h5)
    · (repeat first|refine zG ?_|(refine LS.nilO ?_;intro nq hnq hltq;try refine zU ?_)|(refine MS.new ?_;intro bq hbq hbqf;try refine zU ?_)|(refine MS.nil ?_;intro nq hnq hltq;have hlq:=hltq _ _ (Hp.get_eq _ _ _);clear hltq;try refine zU ?_)|(refine LS.nilQ ?_;try with_reducible intro nq hnq;try refine zU ?_))
      refine LS.callQ (.arr 64 (bys (trn s))) rfl (fun n' hn' => spec_l09Flip h.N s _ _ hS.ha hz0) ?_
      (repeat first|refine zG ?_|(refine LS.nilO ?_;intro nq hnq hltq;try refine zU ?_)|(refine MS.new ?_;intro bq hbq hbqf;try refine zU ?_)|(refine MS.nil ?_;intro nq hnq hltq;have hlq:=hltq _ _ (Hp.get_eq _ _ _);clear hltq;try refine zU ?_)|(refine LS.nilQ ?_;try with_reducible intro nq hnq;try refine zU ?_))
      refine LS.callQ (.arr 64 (bys x5)) rfl (fun n' hn' => by rw [hx5]; exact FnS.args (concs_cons (conc_arr (fun q hq => rfl)) rfl) (spec_l03Pairs h h.N (trn s) s K _ _ hS hK hB htr hs)) ?_
      (repeat first|refine zG ?_|(refine LS.nilO ?_;intro nq hnq hltq;try refine zU ?_)|(refine MS.new ?_;intro bq hbq hbqf;try refine zU ?_)|(refine MS.nil ?_;intro nq hnq hltq;have hlq:=hltq _ _ (Hp.get_eq _ _ _);clear hltq;try refine zU ?_)|(refine LS.nilQ ?_;try with_reducible intro nq hnq;try refine zU ?_))
      refine LS.callQ (.arr 64 (bys x7)) rfl (fun n' hn' => by rw [hx7]; exact FnS.args (concs_cons (conc_arr (fun q hq => rfl)) rfl) (spec_l09One h h.N K _ _ hS hK hB)) ?_
      (repeat first|refine zG ?_|(refine LS.nilO ?_;intro nq hnq hltq;try refine zU ?_)|(refine MS.new ?_;intro bq hbq hbqf;try refine zU ?_)|(refine MS.nil ?_;intro nq hnq hltq;have hlq:=hltq _ _ (Hp.get_eq _ _ _);clear hltq;try refine zU ?_)|(refine LS.nilQ ?_;try with_reducible intro nq hnq;try refine zU ?_))
      exact ⟨.tup [bl (tb (mok h 1 (fun _ => s) ∧ cnd h h.N s = 0 ∧ ∀ q, q < 64 → ten h.p h.m (trn s) s q = outer h.p h.u h.u q)), i64 (cd (mok h 1 (fun _ => s)))], H, conc_tup2 (congrArg AV.conc (congrArg bl (tb_iff (by rw [← hx0, ← hx5, ← hx7]; exact ⟨fun q => ⟨h3, by simpa using h5, q⟩, fun q => q.2.2⟩)))) (by rw [cd_true h3]), by exact zD, by (try subst hx0); (try subst hx5); (try subst hx7); rfl, rfl⟩
    · (repeat first|refine zG ?_|(refine LS.nilO ?_;intro nq hnq hltq;try refine zU ?_)|(refine MS.new ?_;intro bq hbq hbqf;try refine zU ?_)|(refine MS.nil ?_;intro nq hnq hltq;have hlq:=hltq _ _ (Hp.get_eq _ _ _);clear hltq;try refine zU ?_)|(refine LS.nilQ ?_;try with_reducible intro nq hnq;try refine zU ?_))
      exact ⟨.tup [bl (tb (mok h 1 (fun _ => s) ∧ cnd h h.N s = 0 ∧ ∀ q, q < 64 → ten h.p h.m (trn s) s q = outer h.p h.u h.u q)), i64 (cd (mok h 1 (fun _ => s)))], H, conc_tup2 (by rw [tb_false (fun q => h5 (by rw [hx0]; simpa using q.2.1))]) (by rw [cd_true h3]), by exact zD, by (try subst hx0); (try subst hx5); (try subst hx7); rfl, rfl⟩
end Go.Proofs.YtbknndbfbebkdaaGreatR
