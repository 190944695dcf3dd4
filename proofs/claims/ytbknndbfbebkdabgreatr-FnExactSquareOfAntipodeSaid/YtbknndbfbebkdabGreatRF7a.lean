/- Contracts of the program's functions. -/
import Derived.Test.YtbknndbfbebkdabGreatRR
import Derived.Test.YtbknndbfbebkdabGreatRLW
import Derived.Test.YtbknndbfbebkdabGreatRVQ
import Derived.Test.YtbknndbfbebkdabGreatRF6a
import Derived.Test.YtbknndbfbebkdabGreatRF6b
namespace Go.Proofs.YtbknndbfbebkdabGreatR
open Go.V
set_option linter.unusedSimpArgs false
set_option linter.unusedVariables false
set_option maxHeartbeats 4000000
/-- spec.l03Fails -/
def ir68 : Cd := (.seq (.reg [⟨some 1,none,.box 35 (.t 0)⟩,⟨some 2,none,.mov (.c (.int .i64 0))⟩]) (.seq (.reg [⟨some 4,none,.ld (some 1106) (.t 1)⟩,⟨some 5,none,.call 92 [(.t 4)]⟩,⟨some 3,none,.mov (.t 5)⟩]) (.seq (.block 0 (.seq (.reg [⟨some 7,none,.mov (.t 3)⟩,⟨some 8,none,.bin .neq (.t 7) (.c (.int .i64 0))⟩,⟨some 6,none,.mov (.t 8)⟩]) (.cond (.t 6) (.seq (.reg [⟨some 9,none,.mov (.t 3)⟩,⟨some 2,none,.mov (.t 9)⟩]) .ret) (.seq (.reg [⟨some 11,none,.ld (some 1106) (.t 1)⟩,⟨some 12,none,.fa 1042 (.t 1)⟩,⟨some 13,none,.ld (some 64) (.t 12)⟩,⟨some 14,none,.call 93 [(.t 11),(.t 13),(.c (.bool false))]⟩,⟨some 15,none,.un .not (.t 14)⟩,⟨some 10,none,.mov (.t 15)⟩]) (.cond (.t 10) (.seq (.reg [⟨some 2,none,.mov (.c (.int .i64 6))⟩]) .ret) (.seq (.reg [⟨some 17,none,.ld (some 1106) (.t 1)⟩,⟨some 18,none,.fa 1042 (.t 1)⟩,⟨some 19,none,.ld (some 64) (.t 18)⟩,⟨some 20,none,.call 93 [(.t 17),(.t 19),(.c (.bool true))]⟩,⟨some 21,none,.un .not (.t 20)⟩,⟨some 16,none,.mov (.t 21)⟩]) (.cond (.t 16) (.seq (.reg [⟨some 2,none,.mov (.c (.int .i64 7))⟩]) .ret) .skip))))))) (.seq (.reg [⟨some 2,none,.mov (.c (.int .i64 0))⟩]) .ret))))
set_option maxRecDepth 100000 in
theorem tr68 : trFn Tryz.prog Tryz.f68 = some (22, ir68, [.tmp 2]) := by kernel_rfl
theorem spec_l03Fails (h : HT) (a : Nat) (K : Nat → SV) (H : Hp) (n : Nat) (hS : HS h a) (hK : h.At K) (hB : h.By) :
    FnS Tryz.prog 68 [.arr 1106 K] H n (fun r H' _ => r = i64 (firstNot (ax h) 0 7) ∧ H' = H) := by
  have e7 := firstNot_split (ax h) 2 5 0
  have hk6 := hK.s
  refine FnS.of_body Tryz.func68 tr68 (by simp) (fun hf => ?_)
  dsimp only [argEnv]
  unfold ir68
  (repeat first|refine zG ?_|(refine LS.nilO ?_;intro nq hnq hltq;try refine zU ?_)|(refine MS.new ?_;intro bq hbq hbqf;try refine zU ?_)|(refine MS.nil ?_;intro nq hnq hltq;have hlq:=hltq _ _ (Hp.get_eq _ _ _);clear hltq;try refine zU ?_)|(refine LS.nilQ ?_;try with_reducible intro nq hnq;try refine zU ?_))
  refine RS.call rfl ((FnS.args (concs_cons (conc_arr (fun q hq => rfl)) rfl) (spec_l03Bialgebra h a K _ _ hS hK hB)).mono ?_)
  rintro r H n2 hn2 ⟨rfl, rfl⟩
  (repeat first|refine zG ?_|(refine LS.nilO ?_;intro nq hnq hltq;try refine zU ?_)|(refine MS.new ?_;intro bq hbq hbqf;try refine zU ?_)|(refine MS.nil ?_;intro nq hnq hltq;have hlq:=hltq _ _ (Hp.get_eq _ _ _);clear hltq;try refine zU ?_)|(refine LS.nilQ ?_;try with_reducible intro nq hnq;try refine zU ?_))
  refine zI ?_ ?_<;>intro h1
  · (repeat first|refine zG ?_|(refine LS.nilO ?_;intro nq hnq hltq;try refine zU ?_)|(refine MS.new ?_;intro bq hbq hbqf;try refine zU ?_)|(refine MS.nil ?_;intro nq hnq hltq;have hlq:=hltq _ _ (Hp.get_eq _ _ _);clear hltq;try refine zU ?_)|(refine LS.nilQ ?_;try with_reducible intro nq hnq;try refine zU ?_))
    exact ⟨_, H, rfl, by exact zD, by rw [e7, if_neg h1], rfl⟩
  (repeat first|refine zG ?_|(refine LS.nilO ?_;intro nq hnq hltq;try refine zU ?_)|(refine MS.new ?_;intro bq hbq hbqf;try refine zU ?_)|(refine MS.nil ?_;intro nq hnq hltq;have hlq:=hltq _ _ (Hp.get_eq _ _ _);clear hltq;try refine zU ?_)|(refine LS.nilQ ?_;try with_reducible intro nq hnq;try refine zU ?_))
  refine RS.call rfl ((FnS.args (concs_cons (conc_arr (fun q hq => rfl)) rfl) (spec_l03Antipode h a false (g6 h.p h.m h.s a) rfl K _ _ hS hK hB)).mono ?_)
  rintro r H n3 hn3 ⟨rfl, rfl⟩
  (repeat first|refine zG ?_|(refine LS.nilO ?_;intro nq hnq hltq;try refine zU ?_)|(refine MS.new ?_;intro bq hbq hbqf;try refine zU ?_)|(refine MS.nil ?_;intro nq hnq hltq;have hlq:=hltq _ _ (Hp.get_eq _ _ _);clear hltq;try refine zU ?_)|(refine LS.nilQ ?_;try with_reducible intro nq hnq;try refine zU ?_))
  refine zI ?_ ?_<;>intro h2
  · (repeat first|refine zG ?_|(refine LS.nilO ?_;intro nq hnq hltq;try refine zU ?_)|(refine MS.new ?_;intro bq hbq hbqf;try refine zU ?_)|(refine MS.nil ?_;intro nq hnq hltq;have hlq:=hltq _ _ (Hp.get_eq _ _ _);clear hltq;try refine zU ?_)|(refine LS.nilQ ?_;try with_reducible intro nq hnq;try refine zU ?_))
    exact ⟨_, H, rfl, by exact zD, by rw [e7, if_pos h1, firstNot_end (A := ax h) (fun q => h2 ((ax_fold6 hS).1 q))]; rfl, rfl⟩
  (repeat first|refine zG ?_|(refine LS.nilO ?_;intro nq hnq hltq;try refine zU ?_)|(refine MS.new ?_;intro bq hbq hbqf;try refine zU ?_)|(refine MS.nil ?_;intro nq hnq hltq;have hlq:=hltq _ _ (Hp.get_eq _ _ _);clear hltq;try refine zU ?_)|(refine LS.nilQ ?_;try with_reducible intro nq hnq;try refine zU ?_))
  refine RS.call rfl ((FnS.args (concs_cons (conc_arr (fun q hq => rfl)) rfl) (spec_l03Antipode h a true (g7 h.p h.m h.s a) rfl K _ _ hS hK hB)).mono ?_)
  rintro r H n4 hn4 ⟨rfl, rfl⟩
  (repeat first|refine zG ?_|(refine LS.nilO ?_;intro nq hnq hltq;try refine zU ?_)|(refine MS.new ?_;intro bq hbq hbqf;try refine zU ?_)|(refine MS.nil ?_;intro nq hnq hltq;have hlq:=hltq _ _ (Hp.get_eq _ _ _);clear hltq;try refine zU ?_)|(refine LS.nilQ ?_;try with_reducible intro nq hnq;try refine zU ?_))
  refine zI ?_ ?_<;>intro h3
  · (repeat first|refine zG ?_|(refine LS.nilO ?_;intro nq hnq hltq;try refine zU ?_)|(refine MS.new ?_;intro bq hbq hbqf;try refine zU ?_)|(refine MS.nil ?_;intro nq hnq hltq;have hlq:=hltq _ _ (Hp.get_eq _ _ _);clear hltq;try refine zU ?_)|(refine LS.nilQ ?_;try with_reducible intro nq hnq;try refine zU ?_))
    exact ⟨_, H, rfl, by exact zD, by rw [e7, if_pos h1, firstNot_go (A := ax h) ((ax_fold6 hS).2 h2), firstNot_end (A := ax h) (fun q => h3 ((ax_fold7 hS).1 q))]; rfl, rfl⟩
  · (repeat first|refine zG ?_|(refine LS.nilO ?_;intro nq hnq hltq;try refine zU ?_)|(refine MS.new ?_;intro bq hbq hbqf;try refine zU ?_)|(refine MS.nil ?_;intro nq hnq hltq;have hlq:=hltq _ _ (Hp.get_eq _ _ _);clear hltq;try refine zU ?_)|(refine LS.nilQ ?_;try with_reducible intro nq hnq;try refine zU ?_))
    exact ⟨_, H, rfl, by exact zD, by rw [e7, if_pos h1, firstNot_go (A := ax h) ((ax_fold6 hS).2 h2), firstNot_go (A := ax h) ((ax_fold7 hS).2 h3)]; rfl, rfl⟩
/-- spec.l03Is -/
def ir44 : Cd := (.seq (.reg [⟨some 1,none,.box 35 (.t 0)⟩,⟨some 2,none,.mov (.c (.bool false))⟩]) (.seq (.reg [⟨some 3,none,.ld (some 1106) (.t 1)⟩,⟨some 4,none,.call 67 [(.t 3)]⟩,⟨some 5,none,.mov (.t 4)⟩,⟨some 6,(some (5,true)),.ld (some 1106) (.t 1)⟩,⟨some 7,(some (5,true)),.call 68 [(.t 6)]⟩,⟨some 8,(some (5,true)),.bin .eql (.t 7) (.c (.int .i64 0))⟩,⟨some 9,none,.pick (.t 5) (.t 8) (.c (.bool false))⟩,⟨some 2,none,.mov (.t 9)⟩]) .ret))
set_option maxRecDepth 100000 in
theorem tr44 : trFn Tryz.prog Tryz.f44 = some (10, ir44, [.tmp 2]) := by kernel_rfl
theorem spec_l03Is (h : HT) (K : Nat → SV) (H : Hp) (n : Nat) (hK : h.At K) (hB : h.By) :
    FnS Tryz.prog 44 [.arr 1106 K] H n (fun r H' _ => r = bl (tb (isHopf h)) ∧ H' = H) := by
  refine FnS.of_body Tryz.func44 tr44 (by simp) (fun hf => ?_)
  dsimp only [argEnv]
  unfold ir44
  (repeat first|refine zG ?_|(refine LS.nilO ?_;intro nq hnq hltq;try refine zU ?_)|(refine MS.new ?_;intro bq hbq hbqf;try refine zU ?_)|(refine MS.nil ?_;intro nq hnq hltq;have hlq:=hltq _ _ (Hp.get_eq _ _ _);clear hltq;try refine zU ?_)|(refine LS.nilQ ?_;try with_reducible intro nq hnq;try refine zU ?_))
  refine RS.call rfl ((FnS.args (concs_cons (conc_arr (fun q hq => rfl)) rfl) (spec_l03Shape h K _ _ hK hB)).mono ?_)
  rintro r H n2 hn2 ⟨rfl, rfl⟩
  (repeat first|refine zG ?_|(refine LS.nilO ?_;intro nq hnq hltq;try refine zU ?_)|(refine MS.new ?_;intro bq hbq hbqf;try refine zU ?_)|(refine MS.nil ?_;intro nq hnq hltq;have hlq:=hltq _ _ (Hp.get_eq _ _ _);clear hltq;try refine zU ?_)|(refine LS.nilQ ?_;try with_reducible intro nq hnq;try refine zU ?_))
  refine RS.sp (t := 5) rfl (fun h1 => ?_) (fun h1 => ?_) <;> (try simp only [tb_eq, tb_eqF, decide_eq_true_eq, decide_eq_false_iff_not, beq_iff_eq, bne_iff_ne, ne_eq, Decidable.not_not, beq_eq_false_iff_ne, bne_eq_false_iff_eq, Bool.not_eq_true', Bool.not_eq_false', Bool.not_eq_eq_eq_not, Bool.not_true, Bool.not_false] at h1)
  · obtain ⟨a, hS⟩ := h1.hs
    (repeat first|refine zG ?_|(refine LS.nilO ?_;intro nq hnq hltq;try refine zU ?_)|(refine MS.new ?_;intro bq hbq hbqf;try refine zU ?_)|(refine MS.nil ?_;intro nq hnq hltq;have hlq:=hltq _ _ (Hp.get_eq _ _ _);clear hltq;try refine zU ?_)|(refine LS.nilQ ?_;try with_reducible intro nq hnq;try refine zU ?_))
    refine RS.call rfl ((FnS.args (concs_cons (conc_arr (fun q hq => rfl)) rfl) (spec_l03Fails h a K _ _ hS hK hB)).mono ?_)
    rintro r H n3 hn3 ⟨rfl, rfl⟩
    (repeat first|refine zG ?_|(refine LS.nilO ?_;intro nq hnq hltq;try refine zU ?_)|(refine MS.new ?_;intro bq hbq hbqf;try refine zU ?_)|(refine MS.nil ?_;intro nq hnq hltq;have hlq:=hltq _ _ (Hp.get_eq _ _ _);clear hltq;try refine zU ?_)|(refine LS.nilQ ?_;try with_reducible intro nq hnq;try refine zU ?_))
    exact ⟨_, H, rfl, by exact zD, by rw [tb_iff (R := firstNot (ax h) 0 7 = 0) ⟨fun q => q.2, fun q => ⟨h1, q⟩⟩, tb_dec]; rfl, rfl⟩
  · (repeat first|refine zG ?_|(refine LS.nilO ?_;intro nq hnq hltq;try refine zU ?_)|(refine MS.new ?_;intro bq hbq hbqf;try refine zU ?_)|(refine MS.nil ?_;intro nq hnq hltq;have hlq:=hltq _ _ (Hp.get_eq _ _ _);clear hltq;try refine zU ?_)|(refine LS.nilQ ?_;try with_reducible intro nq hnq;try refine zU ?_))
    exact ⟨_, H, rfl, by exact zD, by rw [tb_false (fun q => h1 q.1)], rfl⟩
/-- spec.l09Code -/
def ir20 : Cd := (.seq (.reg [⟨some 3,none,.box 35 (.t 0)⟩,⟨some 6,none,.mov (.c (.int .i64 0))⟩]) (.seq (.seq (.reg [⟨some 8,none,.ld (some 1106) (.t 3)⟩,⟨some 9,none,.call 44 [(.t 8)]⟩,⟨some 10,none,.un .not (.t 9)⟩]) (.cond (.t 10) (.seq (.reg [⟨some 6,none,.mov (.c (.int .i64 1))⟩]) .ret) .skip)) (.seq (.seq (.reg [⟨some 7,none,.mov (.c (.int .i64 0))⟩]) (.block 0 (.loop (.seq (.seq (.reg [⟨some 11,none,.mov (.t 7)⟩,⟨some 12,none,.mov (.t 2)⟩,⟨some 13,none,.len (.t 12)⟩,⟨some 14,none,.bin .lss (.t 11) (.t 13)⟩]) (.cond (.t 14) .skip (.exit 0))) (.seq (.block 1 (.seq (.drw true [8] [⟨some 17,none,.fa 0 (.t 3)⟩,⟨some 18,none,.ld none (.t 17)⟩,⟨some 19,none,.fa 1 (.t 3)⟩,⟨some 20,none,.ld none (.t 19)⟩,⟨some 21,none,.mov (.t 2)⟩,⟨some 22,none,.mov (.t 7)⟩,⟨some 23,none,.isl 64 (.t 21) (.t 22)⟩,⟨some 24,none,.ld (some 64) (.t 23)⟩,⟨some 25,none,.call 45 [(.t 18),(.t 20),(.t 24)]⟩,⟨some 26,none,.un .not (.t 25)⟩]) (.cond (.t 26) (.seq (.reg [⟨some 6,none,.mov (.c (.int .i64 1))⟩]) .ret) .skip))) (.reg [⟨some 15,none,.mov (.t 7)⟩,⟨some 16,none,.bin .add (.t 15) (.c (.int .i64 1))⟩,⟨some 7,none,.mov (.t 16)⟩])))))) (.seq (.seq (.drw true [6] [⟨some 27,none,.mov (.t 1)⟩,⟨some 28,none,.mov (.t 27)⟩,⟨some 29,(some (28,true)),.ld (some 1106) (.t 3)⟩,⟨some 30,(some (28,true)),.mov (.t 2)⟩,⟨some 31,(some (28,true)),.isl 64 (.t 30) (.c (.int .i64 0))⟩,⟨some 32,(some (28,true)),.ld (some 64) (.t 31)⟩,⟨some 33,(some (28,true)),.call 46 [(.t 29),(.t 32)]⟩,⟨some 34,(some (28,true)),.bin .neq (.t 33) (.c (.int .i64 0))⟩,⟨some 35,none,.pick (.t 28) (.t 34) (.c (.bool false))⟩]) (.cond (.t 35) (.seq (.reg [⟨some 6,none,.mov (.c (.int .i64 5))⟩]) .ret) .skip)) (.seq (.reg [⟨some 6,none,.mov (.c (.int .i64 0))⟩]) .ret)))))
set_option maxRecDepth 100000 in
theorem tr20 : trFn Tryz.prog Tryz.f20 = some (36, ir20, [.tmp 6]) := by kernel_rfl
theorem spec_l09CodeU (h : HT) (v : SV) (w : Nat → Int) (K : Nat → SV) (H : Hp) (n : Nat) (hK : h.At K) (hB : h.By) (hv : mlv H v 1 (fun _ => w)) (hw : isBy 64 w) :
    FnS Tryz.prog 20 [.arr 1106 K, bl true, .s v] H n (fun r H' _ => r = i64 (sc5 (mok h 1 (fun _ => w)) (cnd h h.N w = 0)) ∧ H' = H) := by
  have hk0 := hK.p
  have hk1 := hK.n
  obtain ⟨bl1, cc, Kl, rfl, hbl, hsl, hcl⟩ := hv
  refine FnS.of_body Tryz.func20 tr20 (by simp) (fun hf => ?_)
  dsimp only [argEnv]
  unfold ir20
  have hbn := getlt hf hbl
  (repeat first|refine zG ?_|(refine LS.nilO ?_;intro nq hnq hltq;try refine zU ?_)|(refine MS.new ?_;intro bq hbq hbqf;try refine zU ?_)|(refine MS.nil ?_;intro nq hnq hltq;have hlq:=hltq _ _ (Hp.get_eq _ _ _);clear hltq;try refine zU ?_)|(refine LS.nilQ ?_;try with_reducible intro nq hnq;try refine zU ?_))
  refine RS.call rfl ((FnS.args (concs_cons (conc_arr (fun q hq => rfl)) rfl) (spec_l03Is h K _ _ hK hB)).mono ?_)
  rintro r H' n2 hn2 ⟨rfl, rfl⟩
  (repeat first|refine zG ?_|(refine LS.nilO ?_;intro nq hnq hltq;try refine zU ?_)|(refine MS.new ?_;intro bq hbq hbqf;try refine zU ?_)|(refine MS.nil ?_;intro nq hnq hltq;have hlq:=hltq _ _ (Hp.get_eq _ _ _);clear hltq;try refine zU ?_)|(refine LS.nilQ ?_;try with_reducible intro nq hnq;try refine zU ?_))
  refine zI ?_ ?_<;>intro h1
  · (repeat first|refine zG ?_|(refine LS.nilO ?_;intro nq hnq hltq;try refine zU ?_)|(refine MS.new ?_;intro bq hbq hbqf;try refine zU ?_)|(refine MS.nil ?_;intro nq hnq hltq;have hlq:=hltq _ _ (Hp.get_eq _ _ _);clear hltq;try refine zU ?_)|(refine LS.nilQ ?_;try with_reducible intro nq hnq;try refine zU ?_))
    exact ⟨_, H, rfl, by exact zD, by rw [sc5_1 (fun q : mok h 1 (fun _ => w) => h1 q.1)], rfl⟩
  (repeat first|refine zG ?_|(refine LS.nilO ?_;intro nq hnq hltq;try refine zU ?_)|(refine MS.new ?_;intro bq hbq hbqf;try refine zU ?_)|(refine MS.nil ?_;intro nq hnq hltq;have hlq:=hltq _ _ (Hp.get_eq _ _ _);clear hltq;try refine zU ?_)|(refine LS.nilQ ?_;try with_reducible intro nq hnq;try refine zU ?_))
  refine CS.iter 1 (fun i => [(7, i64 i), (2, .s (.slc bl1 0 1 cc)), (1, bl true), (3, ptr n 0)]) (fun _ => (n, ⟨1106, K, 35⟩) :: H) (fun i => ∀ j, j < i → isLin h.p h.n h.n w) (by (repeat first | exact trivial | refine And.intro rfl ?_)) (Drops.refl _ _) (fun _ h => by omega) ?_
  intro i n3 hi hn hJ
  (repeat first|refine zG ?_|(refine LS.nilO ?_;intro nq hnq hltq;try refine zU ?_)|(refine MS.new ?_;intro bq hbq hbqf;try refine zU ?_)|(refine MS.nil ?_;intro nq hnq hltq;have hlq:=hltq _ _ (Hp.get_eq _ _ _);clear hltq;try refine zU ?_)|(refine LS.nilQ ?_;try with_reducible intro nq hnq;try refine zU ?_))
  refine zI ?_ ?_<;>intro h2
  · have hr := hcl i (by omega)
    (repeat first|refine zG ?_|(refine LS.nilO ?_;intro nq hnq hltq;try refine zU ?_)|(refine MS.new ?_;intro bq hbq hbqf;try refine zU ?_)|(refine MS.nil ?_;intro nq hnq hltq;have hlq:=hltq _ _ (Hp.get_eq _ _ _);clear hltq;try refine zU ?_)|(refine LS.nilQ ?_;try with_reducible intro nq hnq;try refine zU ?_))
    refine RS.call rfl ((spec_l01Linear h.p h.n w _ _ hw).mono ?_)
    rintro r H' n4 hn4 ⟨rfl, rfl⟩
    (repeat first|refine zG ?_|(refine LS.nilO ?_;intro nq hnq hltq;try refine zU ?_)|(refine MS.new ?_;intro bq hbq hbqf;try refine zU ?_)|(refine MS.nil ?_;intro nq hnq hltq;have hlq:=hltq _ _ (Hp.get_eq _ _ _);clear hltq;try refine zU ?_)|(refine LS.nilQ ?_;try with_reducible intro nq hnq;try refine zU ?_))
    refine zI ?_ ?_<;>intro h3
    · (repeat first|refine zG ?_|(refine LS.nilO ?_;intro nq hnq hltq;try refine zU ?_)|(refine MS.new ?_;intro bq hbq hbqf;try refine zU ?_)|(refine MS.nil ?_;intro nq hnq hltq;have hlq:=hltq _ _ (Hp.get_eq _ _ _);clear hltq;try refine zU ?_)|(refine LS.nilQ ?_;try with_reducible intro nq hnq;try refine zU ?_))
      exact ⟨_, H, rfl, by exact zD, by rw [sc5_1 (fun q : mok h 1 (fun _ => w) => h3 (q.2 i (by omega)))], rfl⟩
    · (repeat first|refine zG ?_|(refine LS.nilO ?_;intro nq hnq hltq;try refine zU ?_)|(refine MS.new ?_;intro bq hbq hbqf;try refine zU ?_)|(refine MS.nil ?_;intro nq hnq hltq;have hlq:=hltq _ _ (Hp.get_eq _ _ _);clear hltq;try refine zU ?_)|(refine LS.nilQ ?_;try with_reducible intro nq hnq;try refine zU ?_))
      refine ⟨by omega, by (repeat first | exact trivial | refine And.intro rfl ?_), Drops.refl _ _, fun j hj => h3⟩
  · obtain rfl : i = 1 := by omega
    have hM : mok h 1 (fun _ => w) := ⟨h1, fun j hj => hJ j hj⟩
    obtain ⟨a, hS⟩ := isHopf.hs h1
    have hN := hS.N
    subst hN
    have hz0 := hM.lz hS (show 0 < 1 by omega)
    have hr := hcl 0 (by omega)
    rw [Nat.zero_mul] at hr
    obtain ⟨x0, hx0⟩ : ∃ x, x = cnd h h.N w := ⟨_, rfl⟩
    (repeat first|refine zG ?_|(refine LS.nilO ?_;intro nq hnq hltq;try refine zU ?_)|(refine MS.new ?_;intro bq hbq hbqf;try refine zU ?_)|(refine MS.nil ?_;intro nq hnq hltq;have hlq:=hltq _ _ (Hp.get_eq _ _ _);clear hltq;try refine zU ?_)|(refine LS.nilQ ?_;try with_reducible intro nq hnq;try refine zU ?_))
    refine RS.call rfl ((FnS.args (concs_cons (conc_arr (fun q hq => rfl)) rfl) (spec_l09Fails h w K _ _ hS h1 hK hB hw hz0)).mono ?_)
    rw [← hx0]
    rintro r H' n4 hn4 ⟨rfl, rfl⟩
    (repeat first|refine zG ?_|(refine LS.nilO ?_;intro nq hnq hltq;try refine zU ?_)|(refine MS.new ?_;intro bq hbq hbqf;try refine zU ?_)|(refine MS.nil ?_;intro nq hnq hltq;have hlq:=hltq _ _ (Hp.get_eq _ _ _);clear hltq;try refine zU ?_)|(refine LS.nilQ ?_;try with_reducible intro nq hnq;try refine zU ?_))
    refine zI ?_ ?_<;>intro h4
    · (repeat first|refine zG ?_|(refine LS.nilO ?_;intro nq hnq hltq;try refine zU ?_)|(refine MS.new ?_;intro bq hbq hbqf;try refine zU ?_)|(refine MS.nil ?_;intro nq hnq hltq;have hlq:=hltq _ _ (Hp.get_eq _ _ _);clear hltq;try refine zU ?_)|(refine LS.nilQ ?_;try with_reducible intro nq hnq;try refine zU ?_))
      exact ⟨_, H, rfl, by exact zD, by rw [sc5_5 hM (fun q => h4 (by omega))], rfl⟩
    · (repeat first|refine zG ?_|(refine LS.nilO ?_;intro nq hnq hltq;try refine zU ?_)|(refine MS.new ?_;intro bq hbq hbqf;try refine zU ?_)|(refine MS.nil ?_;intro nq hnq hltq;have hlq:=hltq _ _ (Hp.get_eq _ _ _);clear hltq;try refine zU ?_)|(refine LS.nilQ ?_;try with_reducible intro nq hnq;try refine zU ?_))
      exact ⟨_, H, rfl, by exact zD, by rw [sc5_0 hM (by omega)], rfl⟩
/-- spec.SquareOfAntipode -/
def ir15 : Cd := (.seq (.reg [⟨some 2,none,.box 35 (.t 0)⟩,⟨some 3,none,.box 29 (.t 1)⟩,⟨some 4,none,.mov (.c (.bool false))⟩,⟨some 5,none,.mov (.c (.int .i64 0))⟩]) (.seq (.seq (.reg [⟨some 11,none,.ld (some 1106) (.t 2)⟩,⟨some 12,none,.ld (some 64) (.t 3)⟩,⟨some 13,none,.bsl 29 1 64 [(64,(.int .u8 0))] [(0,64,(.t 12))]⟩,⟨some 14,none,.call 20 [(.t 11),(.c (.bool true)),(.t 13)]⟩,⟨some 6,none,.mov (.t 14)⟩]) (.seq (.reg [⟨some 15,none,.mov (.t 6)⟩,⟨some 16,none,.bin .neq (.t 15) (.c (.int .i64 0))⟩]) (.cond (.t 16) (.seq (.reg [⟨some 17,none,.mov (.t 6)⟩,⟨some 4,none,.mov (.c (.bool false))⟩,⟨some 5,none,.mov (.t 17)⟩]) .ret) .skip))) (.seq (.mixt [] [⟨some 18,none,.ld (some 1106) (.t 2)⟩,⟨some 19,none,.ld (some 64) (.t 3)⟩,⟨some 20,none,.call 26 [(.t 18),(.t 19)]⟩,⟨some 21,none,.ld (some 1106) (.t 2)⟩,⟨some 22,none,.call 28 [(.t 21)]⟩] [⟨some 18,none,.ld (some 1106) (.t 2)⟩,⟨some 19,none,.ld (some 64) (.t 3)⟩,⟨some 20,none,.call 26 [(.t 18),(.t 19)]⟩,⟨some 21,none,.ld (some 1106) (.t 2)⟩,⟨some 22,none,.call 28 [(.t 21)]⟩,⟨some 7,none,.new 27 [(8,(.int .u8 0))]⟩,⟨some 8,none,.new 61 [(2,(.int .i64 0)),(520,(.int .u8 0))]⟩,⟨none,none,.st 8 (.t 7) (.t 20)⟩,⟨none,none,.st 522 (.t 8) (.t 22)⟩] (.fork (.seg 5 (.seg 6 (.seg 7 (.seg 8 .done)))) (.seg 6 (.seg 5 (.seg 7 (.seg 8 .done)))))) (.seq (.seq (.reg [⟨some 9,none,.mov (.c (.int .i64 0))⟩]) (.block 0 (.loop (.seq (.seq (.reg [⟨some 23,none,.mov (.t 9)⟩,⟨some 24,none,.fa 1 (.t 2)⟩,⟨some 25,none,.ld none (.t 24)⟩,⟨some 26,none,.bin .lss (.t 23) (.t 25)⟩]) (.cond (.t 26) .skip (.exit 0))) (.seq (.block 1 (.seq (.mix [⟨some 29,none,.fa 0 (.t 2)⟩,⟨some 30,none,.ld none (.t 29)⟩,⟨some 31,none,.fa 1 (.t 2)⟩,⟨some 32,none,.ld none (.t 31)⟩,⟨some 33,none,.fa 1042 (.t 2)⟩,⟨some 34,none,.ld (some 64) (.t 33)⟩,⟨some 35,none,.mov (.t 9)⟩,⟨some 36,none,.fa 1042 (.t 2)⟩,⟨some 37,none,.ia 8 8 (.t 36) (.t 35)⟩,⟨some 38,none,.ld (some 8) (.t 37)⟩,⟨some 39,none,.call 29 [(.t 30),(.t 32),(.t 34),(.t 38)]⟩] [⟨some 10,none,.new 27 [(8,(.int .u8 0))]⟩,⟨none,none,.st 8 (.t 10) (.t 39)⟩]) (.seq (.drwo true [8] [0,1,2,4,5,6,3,7,8,9] [⟨some 40,none,.ld (some 522) (.t 8)⟩,⟨some 41,none,.ld (some 8) (.t 10)⟩,⟨some 42,none,.ld (some 8) (.t 7)⟩,⟨some 43,none,.call 30 [(.t 40),(.t 41),(.t 42)]⟩,⟨some 44,none,.ld (some 522) (.t 8)⟩,⟨some 45,none,.ld (some 8) (.t 7)⟩,⟨some 46,none,.mov (.t 9)⟩,⟨some 47,none,.call 31 [(.t 46)]⟩,⟨some 48,none,.call 30 [(.t 44),(.t 45),(.t 47)]⟩,⟨some 49,none,.eqa true 8 (.t 43) (.t 48)⟩]) (.cond (.t 49) (.seq (.reg [⟨some 4,none,.mov (.c (.bool false))⟩,⟨some 5,none,.mov (.c (.int .i64 0))⟩]) .ret) .skip)))) (.reg [⟨some 27,none,.mov (.t 9)⟩,⟨some 28,none,.bin .add (.t 27) (.c (.int .i64 1))⟩,⟨some 9,none,.mov (.t 28)⟩])))))) (.seq (.reg [⟨some 4,none,.mov (.c (.bool true))⟩,⟨some 5,none,.mov (.c (.int .i64 0))⟩]) .ret)))))
set_option maxRecDepth 100000 in
theorem tr15 : trFn Tryz.prog Tryz.f15 = some (50, ir15, [.tmp 4, .tmp 5]) := by kernel_rfl
theorem spec_SquareOfAntipode (h : HT) (s : Nat → Int) (K : Nat → SV) (H : Hp) (n : Nat) (hK : h.At K) (hB : h.By) (hs : isBy 64 s) :
    FnS Tryz.prog 15 [.arr 1106 K, .arr 64 (bys s)] H n (fun r H' _ => r = .tup [bl (tb ((mok h 1 (fun _ => s) ∧ cnd h h.N s = 0) ∧ ∀ i, i < h.N → sqE h (drf h.p h.m h.s s h.N 64) h.N i)), i64 (sc5 (mok h 1 (fun _ => s)) (cnd h h.N s = 0))] ∧ H' = H) := by
  have hk0 := hK.p
  have hk1 := hK.n
  have hk2 := hK.s
  refine FnS.of_body Tryz.func15 tr15 (by simp) (fun hf => ?_)
  dsimp only [argEnv]
  unfold ir15
  (repeat first|refine zG ?_|(refine LS.nilO ?_;intro nq hnq hltq;try refine zU ?_)|(refine MS.new ?_;intro bq hbq hbqf;try refine zU ?_)|(refine MS.nil ?_;intro nq hnq hltq;have hlq:=hltq _ _ (Hp.get_eq _ _ _);clear hltq;try refine zU ?_)|(refine LS.nilQ ?_;try with_reducible intro nq hnq;try refine zU ?_))
  refine RS.call rfl ((FnS.args (concs_cons (conc_arr (fun q hq => rfl)) rfl) (spec_l09CodeU h (.slc (n + 2) 0 1 1) s K _ _ hK hB ⟨n + 2, 1, _, rfl, by exact zH, (by simp), fun i hi q hq => by (obtain rfl : i = 0 := by omega); (try dsimp only); rw [show 0 + 0 * 64 + q = 0 + q by omega]; exact (splice_at _ _ 0 64 q hq).trans (by first | rfl | (simp only [Nat.zero_add]; rfl))⟩ hs)).mono ?_)
  rintro r H' n2 hn2 ⟨rfl, rfl⟩
  obtain ⟨c, hc⟩ : ∃ c, c = sc5 (mok h 1 (fun _ => s)) (cnd h h.N s = 0) := ⟨_, rfl⟩
  rw [← hc]
  (repeat first|refine zG ?_|(refine LS.nilO ?_;intro nq hnq hltq;try refine zU ?_)|(refine MS.new ?_;intro bq hbq hbqf;try refine zU ?_)|(refine MS.nil ?_;intro nq hnq hltq;have hlq:=hltq _ _ (Hp.get_eq _ _ _);clear hltq;try refine zU ?_)|(refine LS.nilQ ?_;try with_reducible intro nq hnq;try refine zU ?_))
  refine zI ?_ ?_<;>intro h1
  · have h3 : ¬(mok h 1 (fun _ => s) ∧ cnd h h.N s = 0) := fun q => h1 (hc.trans (sc5_zero.2 q))
    (repeat first|refine zG ?_|(refine LS.nilO ?_;intro nq hnq hltq;try refine zU ?_)|(refine MS.new ?_;intro bq hbq hbqf;try refine zU ?_)|(refine MS.nil ?_;intro nq hnq hltq;have hlq:=hltq _ _ (Hp.get_eq _ _ _);clear hltq;try refine zU ?_)|(refine LS.nilQ ?_;try with_reducible intro nq hnq;try refine zU ?_))
    exact ⟨.tup [bl (tb ((mok h 1 (fun _ => s) ∧ cnd h h.N s = 0) ∧ ∀ i, i < h.N → sqE h (drf h.p h.m h.s s h.N 64) h.N i)), i64 (sc5 (mok h 1 (fun _ => s)) (cnd h h.N s = 0))], H, conc_tup2 (by rw [tb_false (fun q => h3 q.1)]) (by rw [hc]), by exact zD, by rw [← hc], rfl⟩
  · have h4 : mok h 1 (fun _ => s) ∧ cnd h h.N s = 0 := sc5_zero.1 (hc.symm.trans h1)
    have h3 : mok h 1 (fun _ => s) := h4.1
    obtain ⟨a, hS⟩ := isHopf.hs h3.1
    have hN := hS.N
    subst hN
    have hz0 := h3.lz hS (show 0 < 1 by omega)
    have hp := hS.hp
    have ha := hS.ha
    rw [hS.hn] at hk1
    obtain ⟨u, hu⟩ : ∃ u, u = drf h.p h.m h.s s h.N 64 := ⟨_, rfl⟩
    have hub : isBy 8 u := by rw [hu]; exact (drf_res hp.1 _ _ _ _ _ 8).by hp.2
    (repeat first|refine zG ?_|(refine LS.nilO ?_;intro nq hnq hltq;try refine zU ?_)|(refine MS.new ?_;intro bq hbq hbqf;try refine zU ?_)|(refine MS.nil ?_;intro nq hnq hltq;have hlq:=hltq _ _ (Hp.get_eq _ _ _);clear hltq;try refine zU ?_)|(refine LS.nilQ ?_;try with_reducible intro nq hnq;try refine zU ?_))
    refine CS.mixtL _ (fun _ _ h => h) ?_
    (repeat first|refine zG ?_|(refine LS.nilO ?_;intro nq hnq hltq;try refine zU ?_)|(refine MS.new ?_;intro bq hbq hbqf;try refine zU ?_)|(refine MS.nil ?_;intro nq hnq hltq;have hlq:=hltq _ _ (Hp.get_eq _ _ _);clear hltq;try refine zU ?_)|(refine LS.nilQ ?_;try with_reducible intro nq hnq;try refine zU ?_))
    refine LS.callQ (.arr 8 (bys u)) rfl (fun n' hn' => by rw [hu]; exact FnS.args (concs_cons (conc_arr (fun q hq => rfl)) rfl) (spec_l09Drinfeld h h.N s K _ _ hS hK hB hs hz0)) ?_
    (repeat first|refine zG ?_|(refine LS.nilO ?_;intro nq hnq hltq;try refine zU ?_)|(refine MS.new ?_;intro bq hbq hbqf;try refine zU ?_)|(refine MS.nil ?_;intro nq hnq hltq;have hlq:=hltq _ _ (Hp.get_eq _ _ _);clear hltq;try refine zU ?_)|(refine LS.nilQ ?_;try with_reducible intro nq hnq;try refine zU ?_))
    refine LS.callQ (.arr 522 K) rfl (fun n' hn' => FnS.args (concs_cons (conc_arr (fun q hq => rfl)) rfl) (spec_l03Algebra K h _ _ hK)) ?_
    (repeat first|refine zG ?_|(refine LS.nilO ?_;intro nq hnq hltq;try refine zU ?_)|(refine MS.new ?_;intro bq hbq hbqf;try refine zU ?_)|(refine MS.nil ?_;intro nq hnq hltq;have hlq:=hltq _ _ (Hp.get_eq _ _ _);clear hltq;try refine zU ?_)|(refine LS.nilQ ?_;try with_reducible intro nq hnq;try refine zU ?_))
    refine MTW.two (fun b7 b8 => [(2, ptr n 0), (3, ptr (n + 1) 0), (7, ptr b7 0), (8, ptr b8 0)]) rfl rfl rfl rfl (by decide) (by decide) rfl rfl (fun b1 b2 => by (repeat first | exact trivial | refine And.intro rfl ?_)) (fun b1 b2 => by (repeat first | exact trivial | refine And.intro rfl ?_)) ?_
    intro b7 b8 n5 hb7 hb8 h78 f7 f8 l7 l8 hn5
    (repeat first|refine zG ?_|(refine LS.nilO ?_;intro nq hnq hltq;try refine zU ?_)|(refine MS.new ?_;intro bq hbq hbqf;try refine zU ?_)|(refine MS.nil ?_;intro nq hnq hltq;have hlq:=hltq _ _ (Hp.get_eq _ _ _);clear hltq;try refine zU ?_)|(refine LS.nilQ ?_;try with_reducible intro nq hnq;try refine zU ?_))
    refine CS.iter h.N (fun i => [(9, i64 i), (2, ptr n 0), (3, ptr (n + 1) 0), (7, ptr b7 0), (8, ptr b8 0)]) (fun i => (b7, ⟨8, bys u, 27⟩) :: (b8, ⟨522, K, 61⟩) :: (n + 1, ⟨64, bys s, 29⟩) :: (n, ⟨1106, K, 35⟩) :: H) (fun i => Bx (∀ j, j < i → sqE h u h.N j)) (by (repeat first | exact trivial | refine And.intro rfl ?_)) (by first | exact Drops.refl _ _ | exact zD) ⟨fun j hj => by omega⟩ ?_
    intro i n6 hi hn6 hJ
    (repeat first|refine zG ?_|(refine LS.nilO ?_;intro nq hnq hltq;try refine zU ?_)|(refine MS.new ?_;intro bq hbq hbqf;try refine zU ?_)|(refine MS.nil ?_;intro nq hnq hltq;have hlq:=hltq _ _ (Hp.get_eq _ _ _);clear hltq;try refine zU ?_)|(refine LS.nilQ ?_;try with_reducible intro nq hnq;try refine zU ?_))
    refine zI ?_ ?_<;>intro h5
    · (repeat first|refine zG ?_|(refine LS.nilO ?_;intro nq hnq hltq;try refine zU ?_)|(refine MS.new ?_;intro bq hbq hbqf;try refine zU ?_)|(refine MS.nil ?_;intro nq hnq hltq;have hlq:=hltq _ _ (Hp.get_eq _ _ _);clear hltq;try refine zU ?_)|(refine LS.nilQ ?_;try with_reducible intro nq hnq;try refine zU ?_))
      refine LS.callQ (.arr 8 (bys (app h.p h.s (fun y => h.s (8 * i + y))))) rfl (fun n' hn' => by
        rw [← apk_more (m := h.N) ha (fun y h1 h2 => hS.sm i y (by omega) h2 (.inr h1))]
        exact spec_l01Apply h.p h.N h.s (fun y => h.s (8 * i + y)) _ _ hp ha hB.s (fun y hy => hB.s _ (by omega))) ?_
      (repeat first|refine zG ?_|(refine LS.nilO ?_;intro nq hnq hltq;try refine zU ?_)|(refine MS.new ?_;intro bq hbq hbqf;try refine zU ?_)|(refine MS.nil ?_;intro nq hnq hltq;have hlq:=hltq _ _ (Hp.get_eq _ _ _);clear hltq;try refine zU ?_)|(refine LS.nilQ ?_;try with_reducible intro nq hnq;try refine zU ?_))
      refine CS.quietLo ?_
      (repeat first|refine zG ?_|(refine LS.nilO ?_;intro nq hnq hltq;try refine zU ?_)|(refine MS.new ?_;intro bq hbq hbqf;try refine zU ?_)|(refine MS.nil ?_;intro nq hnq hltq;have hlq:=hltq _ _ (Hp.get_eq _ _ _);clear hltq;try refine zU ?_)|(refine LS.nilQ ?_;try with_reducible intro nq hnq;try refine zU ?_))
      refine LS.callQ (.arr 8 (bys (pr h.p h.m (app h.p h.s (fun y => h.s (8 * i + y))) u h.N))) rfl (fun n' hn' => spec_l01Times h.p h.N h.m (app h.p h.s (fun y => h.s (8 * i + y))) u K _ _ hp ha hk0 hk1 hK.m hB.m ((app_res hp.1 _ _ 8).by hp.2) hub) ?_
      (repeat first|refine zG ?_|(refine LS.nilO ?_;intro nq hnq hltq;try refine zU ?_)|(refine MS.new ?_;intro bq hbq hbqf;try refine zU ?_)|(refine MS.nil ?_;intro nq hnq hltq;have hlq:=hltq _ _ (Hp.get_eq _ _ _);clear hltq;try refine zU ?_)|(refine LS.nilQ ?_;try with_reducible intro nq hnq;try refine zU ?_))
      refine LS.callQ (.arr 8 (bys (bas i))) rfl (fun n' hn' => spec_l01Basis i _ _ (by omega)) ?_
      (repeat first|refine zG ?_|(refine LS.nilO ?_;intro nq hnq hltq;try refine zU ?_)|(refine MS.new ?_;intro bq hbq hbqf;try refine zU ?_)|(refine MS.nil ?_;intro nq hnq hltq;have hlq:=hltq _ _ (Hp.get_eq _ _ _);clear hltq;try refine zU ?_)|(refine LS.nilQ ?_;try with_reducible intro nq hnq;try refine zU ?_))
      refine LS.callQ (.arr 8 (bys (pr h.p h.m u (bas i) h.N))) rfl (fun n' hn' => spec_l01Times h.p h.N h.m u (bas i) K _ _ hp ha hk0 hk1 hK.m hB.m hub (bas_by _ _)) ?_
      (repeat first|refine zG ?_|(refine LS.nilO ?_;intro nq hnq hltq;try refine zU ?_)|(refine MS.new ?_;intro bq hbq hbqf;try refine zU ?_)|(refine MS.nil ?_;intro nq hnq hltq;have hlq:=hltq _ _ (Hp.get_eq _ _ _);clear hltq;try refine zU ?_)|(refine LS.nilQ ?_;try with_reducible intro nq hnq;try refine zU ?_))
      refine zI ?_ ?_<;>intro h6
      · (repeat first|refine zG ?_|(refine LS.nilO ?_;intro nq hnq hltq;try refine zU ?_)|(refine MS.new ?_;intro bq hbq hbqf;try refine zU ?_)|(refine MS.nil ?_;intro nq hnq hltq;have hlq:=hltq _ _ (Hp.get_eq _ _ _);clear hltq;try refine zU ?_)|(refine LS.nilQ ?_;try with_reducible intro nq hnq;try refine zU ?_))
        exact ⟨.tup [bl (tb ((mok h 1 (fun _ => s) ∧ cnd h h.N s = 0) ∧ ∀ i, i < h.N → sqE h (drf h.p h.m h.s s h.N 64) h.N i)), i64 (sc5 (mok h 1 (fun _ => s)) (cnd h h.N s = 0))], H, conc_tup2 (by rw [tb_false (fun q => h6 (by have := q.2 i (by omega); rw [← hu] at this; exact this))]) (by rw [← hc, h1]), by exact zD, by rw [← hc, ← hu], rfl⟩
      · (repeat first|refine zG ?_|(refine LS.nilO ?_;intro nq hnq hltq;try refine zU ?_)|(refine MS.new ?_;intro bq hbq hbqf;try refine zU ?_)|(refine MS.nil ?_;intro nq hnq hltq;have hlq:=hltq _ _ (Hp.get_eq _ _ _);clear hltq;try refine zU ?_)|(refine LS.nilQ ?_;try with_reducible intro nq hnq;try refine zU ?_))
        exact ⟨by omega, by (repeat first | exact trivial | refine And.intro rfl ?_), (by first | exact Drops.refl _ _ | exact zD), ⟨fun j hj => if e : j = i then by subst e; exact h6 else hJ.out j (by omega)⟩⟩
    · obtain rfl : i = h.N := by omega
      (repeat first|refine zG ?_|(refine LS.nilO ?_;intro nq hnq hltq;try refine zU ?_)|(refine MS.new ?_;intro bq hbq hbqf;try refine zU ?_)|(refine MS.nil ?_;intro nq hnq hltq;have hlq:=hltq _ _ (Hp.get_eq _ _ _);clear hltq;try refine zU ?_)|(refine LS.nilQ ?_;try with_reducible intro nq hnq;try refine zU ?_))
      exact ⟨.tup [bl (tb ((mok h 1 (fun _ => s) ∧ cnd h h.N s = 0) ∧ ∀ i, i < h.N → sqE h (drf h.p h.m h.s s h.N 64) h.N i)), i64 (sc5 (mok h 1 (fun _ => s)) (cnd h h.N s = 0))], H, conc_tup2 (by rw [tb_true ⟨h4, by rw [← hu]; exact hJ.out⟩]) (by rw [← hc, h1]), by exact zD, by rw [← hc, ← hu], rfl⟩
end Go.Proofs.YtbknndbfbebkdabGreatR
