/- Contracts of the program's functions. -/
import Derived.Test.YtbknndbfbebkdaaGreatRR
import Derived.Test.YtbknndbfbebkdaaGreatRLW
import Derived.Test.YtbknndbfbebkdaaGreatRQ6a
namespace Go.Proofs.YtbknndbfbebkdaaGreatR
open Go.V
set_option linter.unusedSimpArgs false
set_option linter.unusedVariables false
set_option maxHeartbeats 4000000
/-- spec.l03Is -/
def ir44 : Cd := (.seq (.reg [⟨some 1,none,.box 35 (.t 0)⟩,⟨some 2,none,.mov (.c (.bool false))⟩]) (.seq (.reg [⟨some 3,none,.ld (some 1106) (.t 1)⟩,⟨some 4,none,.call 82 [(.t 3)]⟩,⟨some 5,none,.mov (.t 4)⟩,⟨some 6,(some (5,true)),.ld (some 1106) (.t 1)⟩,⟨some 7,(some (5,true)),.call 83 [(.t 6)]⟩,⟨some 8,(some (5,true)),.bin .eql (.t 7) (.c (.int .i64 0))⟩,⟨some 9,none,.pick (.t 5) (.t 8) (.c (.bool false))⟩,⟨some 2,none,.mov (.t 9)⟩]) .ret))
set_option maxRecDepth 100000 in
theorem tr44 : trFn Tryz.prog Tryz.f44 = some (10, ir44, [.tmp 2]) := by kernel_rfl
theorem spec_l03Is (h : HT) (K : Nat → SV) (H : Hp) (n : Nat) (hK : h.At K) (hB : h.By) :
    FnS Tryz.prog 44 [.arr 1106 K] H n (fun r H' _ => r = bl (tb (isHopf h)) ∧ H' = H) := by
  refine FnS.of_body Tryz.func44 tr44 (by simp) (fun hf => ?_)
  dsimp only [argEnv]
  unfold ir44
  (repeat first|refine zG ?_|(refine LS.nilO ?_;intro nq hnq hltq;try refine zU ?_)|(refine MS.new ?_;intro bq hbq hbqf;try refine zU ?_)|(refine MS.nil ?_;intro nq hnq hltq;have hlq:=hltq _ _ (Hp.get_eq _ _ _);clear hltq;try refine zU ?_)|(refine LS.nilQ ?_;try with_reducible intro nq hnq;try refine zU ?_))
  refine RS.call rfl ((FnS.args (concs_cons (conc_arr (fun q hq => rfl)) rfl) (spec_l03Shape h K _ _ hK hB)).mono ?_)
  rintro r H n2 hn2 ⟨rfl, rfl⟩
  (repeat first|refine zG ?_|(refine LS.nilO ?_;intro nq hnq hltq;try refine zU ?_)|(refine MS.new ?_;intro bq hbq hbqf;try refine zU ?_)|(refine MS.nil ?_;intro nq hnq hltq;have hlq:=hltq _ _ (Hp.get_eq _ _ _);clear hltq;try refine zU ?_)|(refine LS.nilQ ?_;try with_reducible intro nq hnq;try refine zU ?_))
  refine RS.sp (t := 5) rfl (fun h1 => ?_) (fun h1 => ?_) <;> (try simp only [tb_eq, tb_eqF, decide_eq_true_eq, decide_eq_false_iff_not, beq_iff_eq, bne_iff_ne, ne_eq, Decidable.not_not, beq_eq_false_iff_ne, bne_eq_false_iff_eq, Bool.not_eq_true', Bool.not_eq_false', Bool.not_eq_eq_eq_not, Bool.not_true, Bool.not_false] at h1)
  · obtain ⟨a, hS⟩ := h1.hs
    (repeat first|refine zG ?_|(refine LS.nilO ?_;intro nq hnq hltq;try refine zU ?_)|(refine MS.new ?_;intro bq hbq hbqf;try refine zU ?_)|(refine MS.nil ?_;intro nq hnq hltq;have hlq:=hltq _ _ (Hp.get_eq _ _ _);clear hltq;try refine zU ?_)|(refine LS.nilQ ?_;try with_reducible intro nq hnq;try refine zU ?_))
    refine RS.call rfl ((FnS.args (concs_cons (conc_arr (fun q hq => rfl)) rfl) (spec_l03Fails h a K _ _ hS hK hB)).mono ?_)
    rintro r H n3 hn3 ⟨rfl, rfl⟩
    (repeat first|refine zG ?_|(refine LS.nilO ?_;intro nq hnq hltq;try refine zU ?_)|(refine MS.new ?_;intro bq hbq hbqf;try refine zU ?_)|(refine MS.nil ?_;intro nq hnq hltq;have hlq:=hltq _ _ (Hp.get_eq _ _ _);clear hltq;try refine zU ?_)|(refine LS.nilQ ?_;try with_reducible intro nq hnq;try refine zU ?_))
    exact ⟨_, H, rfl, by exact zD, by rw [tb_iff (R := firstNot (ax h) 0 7 = 0) ⟨fun q => q.2, fun q => ⟨h1, q⟩⟩, tb_dec]; rfl, rfl⟩
  · (repeat first|refine zG ?_|(refine LS.nilO ?_;intro nq hnq hltq;try refine zU ?_)|(refine MS.new ?_;intro bq hbq hbqf;try refine zU ?_)|(refine MS.nil ?_;intro nq hnq hltq;have hlq:=hltq _ _ (Hp.get_eq _ _ _);clear hltq;try refine zU ?_)|(refine LS.nilQ ?_;try with_reducible intro nq hnq;try refine zU ?_))
    exact ⟨_, H, rfl, by exact zD, by rw [tb_false (fun q => h1 q.1)], rfl⟩
/-- spec.l10Code -/
def ir21 : Cd := (.seq (.reg [⟨some 2,none,.box 35 (.t 0)⟩,⟨some 4,none,.mov (.c (.int .i64 0))⟩]) (.seq (.seq (.reg [⟨some 7,none,.ld (some 1106) (.t 2)⟩,⟨some 8,none,.call 44 [(.t 7)]⟩,⟨some 9,none,.un .not (.t 8)⟩]) (.cond (.t 9) (.seq (.reg [⟨some 4,none,.mov (.c (.int .i64 1))⟩]) .ret) .skip)) (.seq (.seq (.reg [⟨some 5,none,.mov (.c (.int .i64 0))⟩]) (.block 0 (.loop (.seq (.seq (.reg [⟨some 10,none,.mov (.t 5)⟩,⟨some 11,none,.mov (.t 1)⟩,⟨some 12,none,.len (.t 11)⟩,⟨some 13,none,.bin .lss (.t 10) (.t 12)⟩]) (.cond (.t 13) .skip (.exit 0))) (.seq (.block 1 (.seq (.seq (.drw true [8] [⟨some 16,none,.fa 0 (.t 2)⟩,⟨some 17,none,.ld none (.t 16)⟩,⟨some 18,none,.fa 1 (.t 2)⟩,⟨some 19,none,.ld none (.t 18)⟩,⟨some 20,none,.mov (.t 1)⟩,⟨some 21,none,.mov (.t 5)⟩,⟨some 22,none,.isl 64 (.t 20) (.t 21)⟩,⟨some 23,none,.ld (some 64) (.t 22)⟩,⟨some 24,none,.call 45 [(.t 17),(.t 19),(.t 23)]⟩,⟨some 25,none,.un .not (.t 24)⟩]) (.cond (.t 25) (.seq (.reg [⟨some 4,none,.mov (.c (.int .i64 1))⟩]) .ret) .skip)) (.seq (.reg [⟨some 26,none,.fa 1 (.t 2)⟩,⟨some 27,none,.ld none (.t 26)⟩,⟨some 6,none,.mov (.t 27)⟩]) (.block 2 (.loop (.seq (.seq (.reg [⟨some 28,none,.mov (.t 6)⟩,⟨some 29,none,.bin .lss (.t 28) (.c (.int .i64 8))⟩]) (.cond (.t 29) .skip (.exit 2))) (.seq (.block 3 (.seq (.reg [⟨some 32,none,.mov (.t 1)⟩,⟨some 33,none,.mov (.t 5)⟩,⟨some 34,none,.mov (.t 6)⟩,⟨some 35,none,.isl 64 (.t 32) (.t 33)⟩,⟨some 36,none,.ia 8 8 (.t 35) (.t 34)⟩,⟨some 37,none,.ld (some 8) (.t 36)⟩,⟨some 38,none,.call 46 [(.t 37)]⟩,⟨some 39,none,.un .not (.t 38)⟩]) (.cond (.t 39) (.seq (.reg [⟨some 4,none,.mov (.c (.int .i64 1))⟩]) .ret) .skip))) (.reg [⟨some 30,none,.mov (.t 6)⟩,⟨some 31,none,.bin .add (.t 30) (.c (.int .i64 1))⟩,⟨some 6,none,.mov (.t 31)⟩])))))))) (.reg [⟨some 14,none,.mov (.t 5)⟩,⟨some 15,none,.bin .add (.t 14) (.c (.int .i64 1))⟩,⟨some 5,none,.mov (.t 15)⟩])))))) (.seq (.reg [⟨some 4,none,.mov (.c (.int .i64 0))⟩]) .ret))))
set_option maxRecDepth 100000 in
theorem tr21 : trFn Tryz.prog Tryz.f21 = some (40, ir21, [.tmp 4]) := by kernel_rfl
theorem spec_l10Code (h : HT) (v : SV) (len : Nat) (hl : len ≤ 100) (w : Nat → Nat → Int) (K : Nat → SV) (H : Hp) (n : Nat) (hK : h.At K) (hB : h.By) (hv : mlv H v len w) (hw : ∀ i, i < len → isBy 64 (w i)) :
    FnS Tryz.prog 21 [.arr 1106 K, .s v] H n (fun r H' _ => r = i64 (cd (mok h len w)) ∧ H' = H) := by
  have hk0 := hK.p
  have hk1 := hK.n
  obtain ⟨bl1, cc, Kl, rfl, hbl, hsl, hcl⟩ := hv
  refine FnS.of_body Tryz.func21 tr21 (by simp) (fun hf => ?_)
  dsimp only [argEnv]
  unfold ir21
  have hbn := getlt hf hbl
  (repeat first|refine zG ?_|(refine LS.nilO ?_;intro nq hnq hltq;try refine zU ?_)|(refine MS.new ?_;intro bq hbq hbqf;try refine zU ?_)|(refine MS.nil ?_;intro nq hnq hltq;have hlq:=hltq _ _ (Hp.get_eq _ _ _);clear hltq;try refine zU ?_)|(refine LS.nilQ ?_;try with_reducible intro nq hnq;try refine zU ?_))
  refine RS.call rfl ((FnS.args (concs_cons (conc_arr (fun q hq => rfl)) rfl) (spec_l03Is h K _ _ hK hB)).mono ?_)
  rintro r H' n2 hn2 ⟨rfl, rfl⟩
  (repeat first|refine zG ?_|(refine LS.nilO ?_;intro nq hnq hltq;try refine zU ?_)|(refine MS.new ?_;intro bq hbq hbqf;try refine zU ?_)|(refine MS.nil ?_;intro nq hnq hltq;have hlq:=hltq _ _ (Hp.get_eq _ _ _);clear hltq;try refine zU ?_)|(refine LS.nilQ ?_;try with_reducible intro nq hnq;try refine zU ?_))
  refine zI ?_ ?_<;>intro h1
  · (repeat first|refine zG ?_|(refine LS.nilO ?_;intro nq hnq hltq;try refine zU ?_)|(refine MS.new ?_;intro bq hbq hbqf;try refine zU ?_)|(refine MS.nil ?_;intro nq hnq hltq;have hlq:=hltq _ _ (Hp.get_eq _ _ _);clear hltq;try refine zU ?_)|(refine LS.nilQ ?_;try with_reducible intro nq hnq;try refine zU ?_))
    exact ⟨_, H, rfl, by exact zD, by rw [cd_false (fun q : mok h len w => h1 q.1)], rfl⟩
  obtain ⟨a, hS⟩ := isHopf.hs (show isHopf h from h1)
  have ha := hS.ha
  (repeat first|refine zG ?_|(refine LS.nilO ?_;intro nq hnq hltq;try refine zU ?_)|(refine MS.new ?_;intro bq hbq hbqf;try refine zU ?_)|(refine MS.nil ?_;intro nq hnq hltq;have hlq:=hltq _ _ (Hp.get_eq _ _ _);clear hltq;try refine zU ?_)|(refine LS.nilQ ?_;try with_reducible intro nq hnq;try refine zU ?_))
  refine CS.iter len (fun i => [(5, i64 i), (1, .s (.slc bl1 0 len cc)), (2, ptr n 0)]) (fun _ => (n, ⟨1106, K, 35⟩) :: H) (fun i => ∀ j, j < i → isLin h.p h.n h.n (w j)) (by (repeat first | exact trivial | refine And.intro rfl ?_)) (Drops.refl _ _) (fun _ h => by omega) ?_
  intro i n3 hi hn hJ
  (repeat first|refine zG ?_|(refine LS.nilO ?_;intro nq hnq hltq;try refine zU ?_)|(refine MS.new ?_;intro bq hbq hbqf;try refine zU ?_)|(refine MS.nil ?_;intro nq hnq hltq;have hlq:=hltq _ _ (Hp.get_eq _ _ _);clear hltq;try refine zU ?_)|(refine LS.nilQ ?_;try with_reducible intro nq hnq;try refine zU ?_))
  refine zI ?_ ?_<;>intro h2
  · have hr := hcl i (by omega)
    (repeat first|refine zG ?_|(refine LS.nilO ?_;intro nq hnq hltq;try refine zU ?_)|(refine MS.new ?_;intro bq hbq hbqf;try refine zU ?_)|(refine MS.nil ?_;intro nq hnq hltq;have hlq:=hltq _ _ (Hp.get_eq _ _ _);clear hltq;try refine zU ?_)|(refine LS.nilQ ?_;try with_reducible intro nq hnq;try refine zU ?_))
    refine RS.call rfl ((spec_l01Linear h.p h.n (w i) _ _ (hw i (by omega))).mono ?_)
    rintro r H' n4 hn4 ⟨rfl, rfl⟩
    (repeat first|refine zG ?_|(refine LS.nilO ?_;intro nq hnq hltq;try refine zU ?_)|(refine MS.new ?_;intro bq hbq hbqf;try refine zU ?_)|(refine MS.nil ?_;intro nq hnq hltq;have hlq:=hltq _ _ (Hp.get_eq _ _ _);clear hltq;try refine zU ?_)|(refine LS.nilQ ?_;try with_reducible intro nq hnq;try refine zU ?_))
    refine zI ?_ ?_<;>intro h3
    · (repeat first|refine zG ?_|(refine LS.nilO ?_;intro nq hnq hltq;try refine zU ?_)|(refine MS.new ?_;intro bq hbq hbqf;try refine zU ?_)|(refine MS.nil ?_;intro nq hnq hltq;have hlq:=hltq _ _ (Hp.get_eq _ _ _);clear hltq;try refine zU ?_)|(refine LS.nilQ ?_;try with_reducible intro nq hnq;try refine zU ?_))
      exact ⟨_, H, rfl, by exact zD, by rw [cd_false (fun q : mok h len w => h3 (q.2 i (by omega)))], rfl⟩
    have hz : lz a (w i) := by
      have := h3
      rw [hS.hn] at this
      exact this.lz
    have hk1' := hS.hn
    (repeat first|refine zG ?_|(refine LS.nilO ?_;intro nq hnq hltq;try refine zU ?_)|(refine MS.new ?_;intro bq hbq hbqf;try refine zU ?_)|(refine MS.nil ?_;intro nq hnq hltq;have hlq:=hltq _ _ (Hp.get_eq _ _ _);clear hltq;try refine zU ?_)|(refine LS.nilQ ?_;try with_reducible intro nq hnq;try refine zU ?_))
    refine CS.iter (8 - a) (fun t => [(6, i64 ((a + t : Nat) : Int)), (5, i64 i), (1, .s (.slc bl1 0 len cc)), (2, ptr n 0)]) (fun _ => (n, ⟨1106, K, 35⟩) :: H) (fun _ => True) (by rw [hk1']; (repeat first | exact trivial | refine And.intro rfl ?_)) (Drops.refl _ _) trivial ?_
    intro t n5 ht hn5 _
    (repeat first|refine zG ?_|(refine LS.nilO ?_;intro nq hnq hltq;try refine zU ?_)|(refine MS.new ?_;intro bq hbq hbqf;try refine zU ?_)|(refine MS.nil ?_;intro nq hnq hltq;have hlq:=hltq _ _ (Hp.get_eq _ _ _);clear hltq;try refine zU ?_)|(refine LS.nilQ ?_;try with_reducible intro nq hnq;try refine zU ?_))
    refine zI ?_ ?_<;>intro h4
    · (repeat first|refine zG ?_|(refine LS.nilO ?_;intro nq hnq hltq;try refine zU ?_)|(refine MS.new ?_;intro bq hbq hbqf;try refine zU ?_)|(refine MS.nil ?_;intro nq hnq hltq;have hlq:=hltq _ _ (Hp.get_eq _ _ _);clear hltq;try refine zU ?_)|(refine LS.nilQ ?_;try with_reducible intro nq hnq;try refine zU ?_))
      refine RS.call rfl ((FnS.args (concs_cons (conc_arr (fun q hq => by rw [show 0 + (i * 64 + 8 * (a + t)) + q = 0 + i * 64 + (8 * (a + t) + q) by omega]; exact hr _ (by omega))) rfl) (spec_l01Zero (fun x => w i (8 * (a + t) + x)) _ _)).mono ?_)
      rintro r H' n6 hn6 ⟨rfl, rfl⟩
      rw [tb_true (fun q hq => hz (a + t) q (by omega) hq (by omega))]
      (repeat first|refine zG ?_|(refine LS.nilO ?_;intro nq hnq hltq;try refine zU ?_)|(refine MS.new ?_;intro bq hbq hbqf;try refine zU ?_)|(refine MS.nil ?_;intro nq hnq hltq;have hlq:=hltq _ _ (Hp.get_eq _ _ _);clear hltq;try refine zU ?_)|(refine LS.nilQ ?_;try with_reducible intro nq hnq;try refine zU ?_))
      exact ⟨by omega, by (repeat first | exact trivial | refine And.intro rfl ?_), Drops.refl _ _, trivial⟩
    · (repeat first|refine zG ?_|(refine LS.nilO ?_;intro nq hnq hltq;try refine zU ?_)|(refine MS.new ?_;intro bq hbq hbqf;try refine zU ?_)|(refine MS.nil ?_;intro nq hnq hltq;have hlq:=hltq _ _ (Hp.get_eq _ _ _);clear hltq;try refine zU ?_)|(refine LS.nilQ ?_;try with_reducible intro nq hnq;try refine zU ?_))
      refine ⟨by omega, by (repeat first | exact trivial | refine And.intro rfl ?_), Drops.refl _ _, fun j hj => ?_⟩
      by_cases e : j = i
      · subst e; exact h3
      · exact hJ j (by omega)
  · have : i = len := by omega
    subst this
    (repeat first|refine zG ?_|(refine LS.nilO ?_;intro nq hnq hltq;try refine zU ?_)|(refine MS.new ?_;intro bq hbq hbqf;try refine zU ?_)|(refine MS.nil ?_;intro nq hnq hltq;have hlq:=hltq _ _ (Hp.get_eq _ _ _);clear hltq;try refine zU ?_)|(refine LS.nilQ ?_;try with_reducible intro nq hnq;try refine zU ?_))
    exact ⟨_, H, rfl, by exact zD, by rw [cd_true (show mok h i w from ⟨h1, hJ⟩)], rfl⟩
/-- spec.TwistedAlgebra -/
def ir12 : Cd := (.seq (.reg [⟨some 2,none,.box 35 (.t 0)⟩,⟨some 3,none,.box 31 (.t 1)⟩,⟨some 4,none,.new 40 [(2,(.int .i64 0)),(520,(.int .u8 0))]⟩,⟨some 5,none,.mov (.c (.int .i64 0))⟩]) (.seq (.seq (.reg [⟨some 10,none,.ld (some 1106) (.t 2)⟩,⟨some 11,none,.ld (some 64) (.t 3)⟩,⟨some 12,none,.bsl 31 1 64 [(64,(.int .u8 0))] [(0,64,(.t 11))]⟩,⟨some 13,none,.call 21 [(.t 10),(.t 12)]⟩,⟨some 6,none,.mov (.t 13)⟩]) (.seq (.reg [⟨some 14,none,.mov (.t 6)⟩,⟨some 15,none,.bin .neq (.t 14) (.c (.int .i64 0))⟩]) (.cond (.t 15) (.seq (.reg [⟨some 16,none,.build 522 [(2,(.int .i64 0)),(520,(.int .u8 0))] []⟩,⟨some 17,none,.mov (.t 6)⟩,⟨none,none,.st 522 (.t 4) (.t 16)⟩,⟨some 5,none,.mov (.t 17)⟩]) .ret) .skip))) (.seq (.seq (.reg [⟨some 18,none,.ld (some 1106) (.t 2)⟩,⟨some 19,none,.ld (some 64) (.t 3)⟩,⟨some 20,none,.call 27 [(.t 18),(.t 19)]⟩,⟨some 21,none,.un .not (.t 20)⟩]) (.cond (.t 21) (.seq (.reg [⟨some 22,none,.build 522 [(2,(.int .i64 0)),(520,(.int .u8 0))] []⟩,⟨none,none,.st 522 (.t 4) (.t 22)⟩,⟨some 5,none,.mov (.c (.int .i64 5))⟩]) .ret) .skip)) (.seq (.reg [⟨some 23,none,.fa 0 (.t 2)⟩,⟨some 24,none,.ld none (.t 23)⟩,⟨some 25,none,.fa 1 (.t 2)⟩,⟨some 26,none,.ld none (.t 25)⟩,⟨some 27,none,.fa 2 (.t 2)⟩,⟨some 28,none,.ld (some 8) (.t 27)⟩,⟨some 29,none,.build 522 [(2,(.int .i64 0)),(520,(.int .u8 0))] [(0,1,(.t 24)),(1,1,(.t 26)),(2,8,(.t 28))]⟩,⟨some 7,none,.new 40 [(2,(.int .i64 0)),(520,(.int .u8 0))]⟩,⟨none,none,.st 522 (.t 7) (.t 29)⟩]) (.seq (.seq (.reg [⟨some 8,none,.mov (.c (.int .i64 0))⟩]) (.block 0 (.loop (.seq (.seq (.reg [⟨some 30,none,.mov (.t 8)⟩,⟨some 31,none,.fa 1 (.t 2)⟩,⟨some 32,none,.ld none (.t 31)⟩,⟨some 33,none,.bin .lss (.t 30) (.t 32)⟩]) (.cond (.t 33) .skip (.exit 0))) (.seq (.block 1 (.seq (.reg [⟨some 9,none,.mov (.c (.int .i64 0))⟩]) (.block 2 (.loop (.seq (.seq (.reg [⟨some 36,none,.mov (.t 9)⟩,⟨some 37,none,.fa 1 (.t 2)⟩,⟨some 38,none,.ld none (.t 37)⟩,⟨some 39,none,.bin .lss (.t 36) (.t 38)⟩]) (.cond (.t 39) .skip (.exit 2))) (.seq (.block 3 (.drw true [10] [⟨some 42,none,.mov (.t 8)⟩,⟨some 43,none,.mov (.t 9)⟩,⟨some 44,none,.ld (some 1106) (.t 2)⟩,⟨some 45,none,.ld (some 64) (.t 3)⟩,⟨some 46,none,.mov (.t 8)⟩,⟨some 47,none,.mov (.t 9)⟩,⟨some 48,none,.call 28 [(.t 44),(.t 45),(.t 46),(.t 47)]⟩,⟨some 49,none,.fa 10 (.t 7)⟩,⟨some 50,none,.ia 8 64 (.t 49) (.t 42)⟩,⟨some 51,none,.ia 8 8 (.t 50) (.t 43)⟩,⟨none,none,.st 8 (.t 51) (.t 48)⟩])) (.reg [⟨some 40,none,.mov (.t 9)⟩,⟨some 41,none,.bin .add (.t 40) (.c (.int .i64 1))⟩,⟨some 9,none,.mov (.t 41)⟩]))))))) (.reg [⟨some 34,none,.mov (.t 8)⟩,⟨some 35,none,.bin .add (.t 34) (.c (.int .i64 1))⟩,⟨some 8,none,.mov (.t 35)⟩])))))) (.seq (.reg [⟨some 52,none,.ld (some 522) (.t 7)⟩,⟨none,none,.st 522 (.t 4) (.t 52)⟩,⟨some 5,none,.mov (.c (.int .i64 0))⟩]) .ret))))))
set_option maxRecDepth 100000 in
theorem tr12 : trFn Tryz.prog Tryz.f12 = some (53, ir12, [.cell (some 522) 4, .tmp 5]) := by kernel_rfl
theorem spec_TwistedAlgebra (h : HT) (s : Nat → Int) (K : Nat → SV) (H : Hp) (n : Nat) (hK : h.At K) (hB : h.By) (hs : isBy 64 s) :
    FnS Tryz.prog 12 [.arr 1106 K, .arr 64 (bys s)] H n (fun r H' _ => r = .tup [.arr 522 (algV (mok h 1 (fun _ => s) ∧ (normed h h.N s ∧ cocyc h.p h.m h.c s h.N)) h.p h.n h.u (rowsTo (fun _ => 0) (legs h.p h.m h.c s) (8 * h.N))), i64 (sc5 (mok h 1 (fun _ => s)) (normed h h.N s ∧ cocyc h.p h.m h.c s h.N))] ∧ H' = H) := by
  have hk0 := hK.p
  have hk1 := hK.n
  have hk2 := hK.u
  refine FnS.of_body Tryz.func12 tr12 (by simp) (fun hf => ?_)
  dsimp only [argEnv]
  unfold ir12
  (repeat first|refine zG ?_|(refine LS.nilO ?_;intro nq hnq hltq;try refine zU ?_)|(refine MS.new ?_;intro bq hbq hbqf;try refine zU ?_)|(refine MS.nil ?_;intro nq hnq hltq;have hlq:=hltq _ _ (Hp.get_eq _ _ _);clear hltq;try refine zU ?_)|(refine LS.nilQ ?_;try with_reducible intro nq hnq;try refine zU ?_))
  refine RS.call rfl ((FnS.args (concs_cons (conc_arr (fun q hq => rfl)) rfl) (spec_l10Code h (.slc (n + 3) 0 1 1) 1 (by omega) (fun _ => s) K _ _ hK hB ⟨n + 3, 1, _, rfl, by exact zH, (by simp), fun i hi q hq => by (obtain rfl : i = 0 := by omega); (try dsimp only); rw [show 0 + 0 * 64 + q = 0 + q by omega]; exact (splice_at _ _ 0 64 q hq).trans (by first | rfl | (simp only [Nat.zero_add]; rfl))⟩ (fun _ _ => hs))).mono ?_)
  rintro r H' n2 hn2 ⟨rfl, rfl⟩
  by_cases h3 : mok h 1 (fun _ => s)
  · rw [cd_true h3]
    obtain ⟨a, hS⟩ := isHopf.hs h3.1
    have hN := hS.N
    subst hN
    have hp := hS.hp
    have ha := hS.ha
    have hz0 := h3.lz hS (show 0 < 1 by omega)
    rw [hS.hn] at hk1
    (repeat first|refine zG ?_|(refine LS.nilO ?_;intro nq hnq hltq;try refine zU ?_)|(refine MS.new ?_;intro bq hbq hbqf;try refine zU ?_)|(refine MS.nil ?_;intro nq hnq hltq;have hlq:=hltq _ _ (Hp.get_eq _ _ _);clear hltq;try refine zU ?_)|(refine LS.nilQ ?_;try with_reducible intro nq hnq;try refine zU ?_))
    refine RS.call rfl ((FnS.args (concs_cons (conc_arr (fun q hq => rfl)) rfl) (spec_l10Cocycle h h.N s K _ _ hS hK hB hs hz0)).mono ?_)
    rintro r H' n3 hn3 ⟨rfl, rfl⟩
    by_cases h4 : (normed h h.N s ∧ cocyc h.p h.m h.c s h.N)
    · rw [tb_true h4]
      (repeat first|refine zG ?_|(refine LS.nilO ?_;intro nq hnq hltq;try refine zU ?_)|(refine MS.new ?_;intro bq hbq hbqf;try refine zU ?_)|(refine MS.nil ?_;intro nq hnq hltq;have hlq:=hltq _ _ (Hp.get_eq _ _ _);clear hltq;try refine zU ?_)|(refine LS.nilQ ?_;try with_reducible intro nq hnq;try refine zU ?_))
      refine CS.iter h.N (fun i => [(8, i64 i), (2, ptr n 0), (3, ptr (n + 1) 0), (4, ptr (n + 2) 0), (7, ptr n3 0)]) (fun i => (n3, ⟨522, algC h.p h.N h.u (rowsTo (fun _ => 0) (legs h.p h.m h.c s) (8 * i)), 40⟩) :: (n + 2, ⟨522, Zs.c [(2, .int .i64 0), (520, .int .u8 0)], 40⟩) :: (n + 1, ⟨64, bys s, 31⟩) :: (n, ⟨1106, K, 35⟩) :: H) (fun _ => True) (by (repeat first | exact trivial | refine And.intro rfl ?_))
        (Drops.keepc rfl rfl (fun q hq => by
          show splice (put1 (put1 (Zs.c [(2, .int .i64 0), (520, .int .u8 0)]) 0 (.int .i64 h.p)) 1 (.int .i64 h.N)) 2 8 (bys h.u) q = _
          have hz : Zs.c [(2, SV.int IntKind.i64 0), (520, SV.int IntKind.u8 0)] q = if q < 2 then .int .i64 0 else .int .u8 0 := rfl
          rw [show rowsTo (fun _ => 0) (legs h.p h.m h.c s) (8 * 0) = fun _ => 0 from rowsTo_zero _ _]
          unfold splice put1 bys
          rw [hz]
          show _ = algC h.p h.N h.u (fun _ => 0) q
          unfold algC
          (repeat' split) <;> first | rfl | omega) (by first | exact Drops.refl _ _ | exact zD)) trivial ?_
      intro i m1 hi hm1 _
      (repeat first|refine zG ?_|(refine LS.nilO ?_;intro nq hnq hltq;try refine zU ?_)|(refine MS.new ?_;intro bq hbq hbqf;try refine zU ?_)|(refine MS.nil ?_;intro nq hnq hltq;have hlq:=hltq _ _ (Hp.get_eq _ _ _);clear hltq;try refine zU ?_)|(refine LS.nilQ ?_;try with_reducible intro nq hnq;try refine zU ?_))
      refine zI ?_ ?_<;>intro h5
      · (repeat first|refine zG ?_|(refine LS.nilO ?_;intro nq hnq hltq;try refine zU ?_)|(refine MS.new ?_;intro bq hbq hbqf;try refine zU ?_)|(refine MS.nil ?_;intro nq hnq hltq;have hlq:=hltq _ _ (Hp.get_eq _ _ _);clear hltq;try refine zU ?_)|(refine LS.nilQ ?_;try with_reducible intro nq hnq;try refine zU ?_))
        refine CS.iter h.N (fun j => [(9, i64 j), (8, i64 i), (2, ptr n 0), (3, ptr (n + 1) 0), (4, ptr (n + 2) 0), (7, ptr n3 0)]) (fun j => (n3, ⟨522, algC h.p h.N h.u (rowsTo (fun _ => 0) (legs h.p h.m h.c s) (8 * i + j)), 40⟩) :: (n + 2, ⟨522, Zs.c [(2, .int .i64 0), (520, .int .u8 0)], 40⟩) :: (n + 1, ⟨64, bys s, 31⟩) :: (n, ⟨1106, K, 35⟩) :: H) (fun _ => True) (by (repeat first | exact trivial | refine And.intro rfl ?_)) (Drops.refl _ _) trivial ?_
        intro j m2 hj hm2 _
        (repeat first|refine zG ?_|(refine LS.nilO ?_;intro nq hnq hltq;try refine zU ?_)|(refine MS.new ?_;intro bq hbq hbqf;try refine zU ?_)|(refine MS.nil ?_;intro nq hnq hltq;have hlq:=hltq _ _ (Hp.get_eq _ _ _);clear hltq;try refine zU ?_)|(refine LS.nilQ ?_;try with_reducible intro nq hnq;try refine zU ?_))
        refine zI ?_ ?_<;>intro h6
        · (repeat first|refine zG ?_|(refine LS.nilO ?_;intro nq hnq hltq;try refine zU ?_)|(refine MS.new ?_;intro bq hbq hbqf;try refine zU ?_)|(refine MS.nil ?_;intro nq hnq hltq;have hlq:=hltq _ _ (Hp.get_eq _ _ _);clear hltq;try refine zU ?_)|(refine LS.nilQ ?_;try with_reducible intro nq hnq;try refine zU ?_))
          refine LS.callQ (.arr 8 (bys (leg h.p h.m h.c s i j))) rfl (fun n' hn' => FnS.args (concs_cons (conc_arr (fun q hq => rfl)) rfl) (spec_l10Product h h.N s i j (by omega) (by omega) K _ _ hS hK hB hs)) ?_
          (repeat first|refine zG ?_|(refine LS.nilO ?_;intro nq hnq hltq;try refine zU ?_)|(refine MS.new ?_;intro bq hbq hbqf;try refine zU ?_)|(refine MS.nil ?_;intro nq hnq hltq;have hlq:=hltq _ _ (Hp.get_eq _ _ _);clear hltq;try refine zU ?_)|(refine LS.nilQ ?_;try with_reducible intro nq hnq;try refine zU ?_))
          refine ⟨by omega, by (repeat first | exact trivial | refine And.intro rfl ?_), Drops.keepc rfl rfl (fun q hq => algC_row (fun q => ?_) q) (Drops.refl _ _), trivial⟩
          rw [show 64 * i + 8 * j = 8 * (8 * i + j) by omega]
          exact rowsTo_step (fun y hy => by rw [show 8 * (8 * i + j) = 64 * i + 8 * j by omega, legs_at _ _ _ _ _ _ _ (by omega) hy]) q
        · obtain rfl : j = h.N := by omega
          (repeat first|refine zG ?_|(refine LS.nilO ?_;intro nq hnq hltq;try refine zU ?_)|(refine MS.new ?_;intro bq hbq hbqf;try refine zU ?_)|(refine MS.nil ?_;intro nq hnq hltq;have hlq:=hltq _ _ (Hp.get_eq _ _ _);clear hltq;try refine zU ?_)|(refine LS.nilQ ?_;try with_reducible intro nq hnq;try refine zU ?_))
          refine ⟨by omega, by (repeat first | exact trivial | refine And.intro rfl ?_), Drops.keepc rfl rfl (fun q hq => ?_) (Drops.refl _ _), trivial⟩
          rw [rowsTo_more (x := 8 * i + h.N) (y := 8 * (i + 1)) (by omega) (fun q q1 q2 => by rw [leg_zero2 hS.cm (by omega) (by omega)])]
      · obtain rfl : i = h.N := by omega
        (repeat first|refine zG ?_|(refine LS.nilO ?_;intro nq hnq hltq;try refine zU ?_)|(refine MS.new ?_;intro bq hbq hbqf;try refine zU ?_)|(refine MS.nil ?_;intro nq hnq hltq;have hlq:=hltq _ _ (Hp.get_eq _ _ _);clear hltq;try refine zU ?_)|(refine LS.nilQ ?_;try with_reducible intro nq hnq;try refine zU ?_))
        exact ⟨.tup [.arr 522 (algV (mok h 1 (fun _ => s) ∧ (normed h h.N s ∧ cocyc h.p h.m h.c s h.N)) h.p h.n h.u (rowsTo (fun _ => 0) (legs h.p h.m h.c s) (8 * h.N))), i64 (sc5 (mok h 1 (fun _ => s)) (normed h h.N s ∧ cocyc h.p h.m h.c s h.N))], H, conc_tup2 (conc_arr (fun q hq => by rw [algV_true ⟨h3, h4⟩, hS.hn]; first | rfl | (simp only [Nat.zero_add]; done) | (simp only [Nat.zero_add]; rfl))) (by rw [sc5_0 h3 h4]), by exact zD, rfl, rfl⟩
    · rw [tb_false h4]
      (repeat first|refine zG ?_|(refine LS.nilO ?_;intro nq hnq hltq;try refine zU ?_)|(refine MS.new ?_;intro bq hbq hbqf;try refine zU ?_)|(refine MS.nil ?_;intro nq hnq hltq;have hlq:=hltq _ _ (Hp.get_eq _ _ _);clear hltq;try refine zU ?_)|(refine LS.nilQ ?_;try with_reducible intro nq hnq;try refine zU ?_))
      exact ⟨.tup [.arr 522 (algV (mok h 1 (fun _ => s) ∧ (normed h h.N s ∧ cocyc h.p h.m h.c s h.N)) h.p h.n h.u (rowsTo (fun _ => 0) (legs h.p h.m h.c s) (8 * h.N))), i64 (sc5 (mok h 1 (fun _ => s)) (normed h h.N s ∧ cocyc h.p h.m h.c s h.N))], H, conc_tup2 (conc_arr (fun q hq => by rw [algV_false (fun q => h4 q.2)]; first | exact algZ q hq | (simp only [Nat.zero_add]; exact algZ q hq))) (by rw [sc5_5 h3 h4]), by exact zD, rfl, rfl⟩
  · rw [cd_false h3]
    (repeat first|refine zG ?_|(refine LS.nilO ?_;intro nq hnq hltq;try refine zU ?_)|(refine MS.new ?_;intro bq hbq hbqf;try refine zU ?_)|(refine MS.nil ?_;intro nq hnq hltq;have hlq:=hltq _ _ (Hp.get_eq _ _ _);clear hltq;try refine zU ?_)|(refine LS.nilQ ?_;try with_reducible intro nq hnq;try refine zU ?_))
    exact ⟨.tup [.arr 522 (algV (mok h 1 (fun _ => s) ∧ (normed h h.N s ∧ cocyc h.p h.m h.c s h.N)) h.p h.n h.u (rowsTo (fun _ => 0) (legs h.p h.m h.c s) (8 * h.N))), i64 (sc5 (mok h 1 (fun _ => s)) (normed h h.N s ∧ cocyc h.p h.m h.c s h.N))], H, conc_tup2 (conc_arr (fun q hq => by rw [algV_false (fun q => h3 q.1)]; first | exact algZ q hq | (simp only [Nat.zero_add]; exact algZ q hq))) (by rw [sc5_1 h3]), by exact zD, rfl, rfl⟩
/-- spec.IsTwist -/
def ir8 : Cd := (.seq (.reg [⟨some 2,none,.box 35 (.t 0)⟩,⟨some 3,none,.box 31 (.t 1)⟩,⟨some 4,none,.mov (.c (.bool false))⟩,⟨some 5,none,.mov (.c (.int .i64 0))⟩]) (.seq (.seq (.reg [⟨some 7,none,.ld (some 1106) (.t 2)⟩,⟨some 8,none,.ld (some 64) (.t 3)⟩,⟨some 9,none,.bsl 31 1 64 [(64,(.int .u8 0))] [(0,64,(.t 8))]⟩,⟨some 10,none,.call 21 [(.t 7),(.t 9)]⟩,⟨some 6,none,.mov (.t 10)⟩]) (.seq (.reg [⟨some 11,none,.mov (.t 6)⟩,⟨some 12,none,.bin .neq (.t 11) (.c (.int .i64 0))⟩]) (.cond (.t 12) (.seq (.reg [⟨some 13,none,.mov (.t 6)⟩,⟨some 4,none,.mov (.c (.bool false))⟩,⟨some 5,none,.mov (.t 13)⟩]) .ret) .skip))) (.seq (.reg [⟨some 14,none,.ld (some 1106) (.t 2)⟩,⟨some 15,none,.ld (some 64) (.t 3)⟩,⟨some 16,none,.call 22 [(.t 14),(.t 15)]⟩,⟨some 4,none,.mov (.t 16)⟩,⟨some 5,none,.mov (.c (.int .i64 0))⟩]) .ret)))
set_option maxRecDepth 100000 in
theorem tr8 : trFn Tryz.prog Tryz.f8 = some (17, ir8, [.tmp 4, .tmp 5]) := by kernel_rfl
theorem spec_IsTwist (h : HT) (s : Nat → Int) (K : Nat → SV) (H : Hp) (n : Nat) (hK : h.At K) (hB : h.By) (hs : isBy 64 s) :
    FnS Tryz.prog 8 [.arr 1106 K, .arr 64 (bys s)] H n (fun r H' _ => r = .tup [bl (tb (mok h 1 (fun _ => s) ∧ isTw h s)), i64 (cd (mok h 1 (fun _ => s)))] ∧ H' = H) := by
  have hk0 := hK.p
  have hk1 := hK.n
  refine FnS.of_body Tryz.func8 tr8 (by simp) (fun hf => ?_)
  dsimp only [argEnv]
  unfold ir8
  (repeat first|refine zG ?_|(refine LS.nilO ?_;intro nq hnq hltq;try refine zU ?_)|(refine MS.new ?_;intro bq hbq hbqf;try refine zU ?_)|(refine MS.nil ?_;intro nq hnq hltq;have hlq:=hltq _ _ (Hp.get_eq _ _ _);clear hltq;try refine zU ?_)|(refine LS.nilQ ?_;try with_reducible intro nq hnq;try refine zU ?_))
  refine RS.call rfl ((FnS.args (concs_cons (conc_arr (fun q hq => rfl)) rfl) (spec_l10Code h (.slc (n + 2) 0 1 1) 1 (by omega) (fun _ => s) K _ _ hK hB ⟨n + 2, 1, _, rfl, by exact zH, (by simp), fun i hi q hq => by (obtain rfl : i = 0 := by omega); (try dsimp only); rw [show 0 + 0 * 64 + q = 0 + q by omega]; exact (splice_at _ _ 0 64 q hq).trans (by first | rfl | (simp only [Nat.zero_add]; rfl))⟩ (fun _ _ => hs))).mono ?_)
  rintro r H' n2 hn2 ⟨rfl, rfl⟩
  (repeat first|refine zG ?_|(refine LS.nilO ?_;intro nq hnq hltq;try refine zU ?_)|(refine MS.new ?_;intro bq hbq hbqf;try refine zU ?_)|(refine MS.nil ?_;intro nq hnq hltq;have hlq:=hltq _ _ (Hp.get_eq _ _ _);clear hltq;try refine zU ?_)|(refine LS.nilQ ?_;try with_reducible intro nq hnq;try refine zU ?_))
  refine zI ?_ ?_<;>intro h1
  · have h3 : ¬mok h 1 (fun _ => s) := fun q => h1 (cd_zero.2 q)
    (repeat first|refine zG ?_|(refine LS.nilO ?_;intro nq hnq hltq;try refine zU ?_)|(refine MS.new ?_;intro bq hbq hbqf;try refine zU ?_)|(refine MS.nil ?_;intro nq hnq hltq;have hlq:=hltq _ _ (Hp.get_eq _ _ _);clear hltq;try refine zU ?_)|(refine LS.nilQ ?_;try with_reducible intro nq hnq;try refine zU ?_))
    exact ⟨.tup [bl (tb (mok h 1 (fun _ => s) ∧ isTw h s)), i64 (cd (mok h 1 (fun _ => s)))], H, conc_tup2 (by rw [tb_false (fun q => h3 q.1)]) rfl, by exact zD, rfl, rfl⟩
  · have h3 : mok h 1 (fun _ => s) := cd_zero.1 h1
    obtain ⟨a, hS⟩ := isHopf.hs h3.1
    have hN := hS.N
    subst hN
    have hz0 := h3.lz hS (show 0 < 1 by omega)
    rw [hS.hn] at hk1
    (repeat first|refine zG ?_|(refine LS.nilO ?_;intro nq hnq hltq;try refine zU ?_)|(refine MS.new ?_;intro bq hbq hbqf;try refine zU ?_)|(refine MS.nil ?_;intro nq hnq hltq;have hlq:=hltq _ _ (Hp.get_eq _ _ _);clear hltq;try refine zU ?_)|(refine LS.nilQ ?_;try with_reducible intro nq hnq;try refine zU ?_))
    refine RS.call rfl ((FnS.args (concs_cons (conc_arr (fun q hq => rfl)) rfl) (spec_l10Twist h h.N s K _ _ hS hK hB hs hz0)).mono ?_)
    rintro r H' n3 hn3 ⟨rfl, rfl⟩
    (repeat first|refine zG ?_|(refine LS.nilO ?_;intro nq hnq hltq;try refine zU ?_)|(refine MS.new ?_;intro bq hbq hbqf;try refine zU ?_)|(refine MS.nil ?_;intro nq hnq hltq;have hlq:=hltq _ _ (Hp.get_eq _ _ _);clear hltq;try refine zU ?_)|(refine LS.nilQ ?_;try with_reducible intro nq hnq;try refine zU ?_))
    exact ⟨.tup [bl (tb (mok h 1 (fun _ => s) ∧ isTw h s)), i64 (cd (mok h 1 (fun _ => s)))], H, conc_tup2 (congrArg AV.conc (congrArg bl (tb_iff ⟨fun q => ⟨h3, q⟩, fun q => q.2⟩))) (by rw [cd_true h3]), by exact zD, rfl, rfl⟩
end Go.Proofs.YtbknndbfbebkdaaGreatR
