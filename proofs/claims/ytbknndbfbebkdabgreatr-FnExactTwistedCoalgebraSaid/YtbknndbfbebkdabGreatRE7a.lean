/- Contracts of the program's functions. -/
import Derived.Test.YtbknndbfbebkdabGreatRR
import Derived.Test.YtbknndbfbebkdabGreatRLW
import Derived.Test.YtbknndbfbebkdabGreatRE6a
import Derived.Test.YtbknndbfbebkdabGreatRE6b
import Derived.Test.YtbknndbfbebkdabGreatRE6c
namespace Go.Proofs.YtbknndbfbebkdabGreatR
open Go.V
set_option linter.unusedSimpArgs false
set_option linter.unusedVariables false
set_option maxHeartbeats 4000000
/-- spec.l03Is -/
def ir44 : Cd := (.seq (.reg [⟨some 1,none,.box 35 (.t 0)⟩,⟨some 2,none,.mov (.c (.bool false))⟩]) (.seq (.reg [⟨some 3,none,.ld (some 1106) (.t 1)⟩,⟨some 4,none,.call 67 [(.t 3)]⟩,⟨some 5,none,.mov (.t 4)⟩,⟨some 6,(some (5,true)),.ld (some 1106) (.t 1)⟩,⟨some 7,(some (5,true)),.call 68 [(.t 6)]⟩,⟨some 8,(some (5,true)),.bin .eql (.t 7) (.c (.int .i64 0))⟩,⟨some 9,none,.pick (.t 5) (.t 8) (.c (.bool false))⟩,⟨some 2,none,.mov (.t 9)⟩]) .ret))
set_option maxRecDepth 100000 in
theorem tr44 : trFn Tryz.prog Tryz.f44 = some (10, ir44, [.tmp 2]) := by kernel_rfl
theorem spec_l03Is (h : HT) (K : Nat → SV) (H : Hp) (n : Nat) (hK : h.At K) (hB : h.By) :
    FnS Tryz.prog 44 [.arr 1106 K] H n (fun r H' _ => r = bl (tb (isHopf h)) ∧ H' = H) := by
  refine FnS.of_body Tryz.func44 tr44 (by simp) (fun hf => ?_)
  dsimp only [argEnv]
  unfold ir44
  (repeat first|refine zG ?_|(refine LS.nilO ?_;intro nq hnq hltq;try refine zU ?_)|(refine MS.new ?_;intro bq hbq hbqf;try refine zU ?_)|(refine MS.nil ?_;intro nq hnq hltq;have hlq:=hltq _ _ (Hp.get_eq _ _ _);clear hltq;try refine zU ?_)|(refine LS.nilQ ?_;try with_reducible intro nq hnq;try refine zU ?_))
  refine RS.call rfl ((FnS.args (concs_cons (conc_arr (fun q hq => rfl)) rfl) (spec_l03Shape h K _ _ hK hB)).mono ?_)
  rintro r H n2 hn2 ⟨rfl, rfl⟩
  (repeat first|refine zG ?_|(refine LS.nilO ?_;intro nq hnq hltq;try refine zU ?_)|(refine MS.new ?_;intro bq hbq hbqf;try refine zU ?_)|(refine MS.nil ?_;intro nq hnq hltq;have hlq:=hltq _ _ (Hp.get_eq _ _ _);clear hltq;try refine zU ?_)|(refine LS.nilQ ?_;try with_reducible intro nq hnq;try refine zU ?_))
  refine RS.sp (t := 5) rfl (fun h1 => ?_) (fun h1 => ?_) <;> (try simp only [tb_eq, tb_eqF, decide_eq_true_eq, decide_eq_false_iff_not, beq_iff_eq, bne_iff_ne, ne_eq, Decidable.not_not, beq_eq_false_iff_ne, bne_eq_false_iff_eq, Bool.not_eq_true', Bool.not_eq_false', Bool.not_eq_eq_eq_not, Bool.not_true, Bool.not_false] at h1)
  · obtain ⟨a, hS⟩ := h1.hs
    (repeat first|refine zG ?_|(refine LS.nilO ?_;intro nq hnq hltq;try refine zU ?_)|(refine MS.new ?_;intro bq hbq hbqf;try refine zU ?_)|(refine MS.nil ?_;intro nq hnq hltq;have hlq:=hltq _ _ (Hp.get_eq _ _ _);clear hltq;try refine zU ?_)|(refine LS.nilQ ?_;try with_reducible intro nq hnq;try refine zU ?_))
    refine RS.call rfl ((FnS.args (concs_cons (conc_arr (fun q hq => rfl)) rfl) (spec_l03Fails h a K _ _ hS hK hB)).mono ?_)
    rintro r H n3 hn3 ⟨rfl, rfl⟩
    (repeat first|refine zG ?_|(refine LS.nilO ?_;intro nq hnq hltq;try refine zU ?_)|(refine MS.new ?_;intro bq hbq hbqf;try refine zU ?_)|(refine MS.nil ?_;intro nq hnq hltq;have hlq:=hltq _ _ (Hp.get_eq _ _ _);clear hltq;try refine zU ?_)|(refine LS.nilQ ?_;try with_reducible intro nq hnq;try refine zU ?_))
    exact ⟨_, H, rfl, by exact zD, by rw [tb_iff (R := firstNot (ax h) 0 7 = 0) ⟨fun q => q.2, fun q => ⟨h1, q⟩⟩, tb_dec]; rfl, rfl⟩
  · (repeat first|refine zG ?_|(refine LS.nilO ?_;intro nq hnq hltq;try refine zU ?_)|(refine MS.new ?_;intro bq hbq hbqf;try refine zU ?_)|(refine MS.nil ?_;intro nq hnq hltq;have hlq:=hltq _ _ (Hp.get_eq _ _ _);clear hltq;try refine zU ?_)|(refine LS.nilQ ?_;try with_reducible intro nq hnq;try refine zU ?_))
    exact ⟨_, H, rfl, by exact zD, by rw [tb_false (fun q => h1 q.1)], rfl⟩
/-- (*impl.Hopf).fails -/
def ir87 : Cd := (.seq (.reg [⟨some 2,none,.box 55 (.t 0)⟩,⟨some 4,none,.mov (.c (.int .i64 0))⟩]) (.seq (.reg [⟨some 8,none,.mkf 104 [] [(.t 2)]⟩,⟨some 9,none,.mkf 106 [] [(.t 2)]⟩,⟨some 10,none,.ld none (.t 2)⟩,⟨some 11,none,.mkf 108 [(.t 10)] []⟩,⟨some 12,none,.ld none (.t 2)⟩,⟨some 13,none,.mkf 109 [(.t 12)] []⟩,⟨some 14,none,.ld none (.t 2)⟩,⟨some 15,none,.mkf 110 [(.t 14)] []⟩,⟨some 16,none,.mkf 111 [] [(.t 2)]⟩,⟨some 17,none,.mkf 113 [] [(.t 2)]⟩,⟨some 18,none,.bsl 114 7 1 [(1,.nilfn)] [(0,1,(.t 8)),(1,1,(.t 9)),(2,1,(.t 11)),(3,1,(.t 13)),(4,1,(.t 15)),(5,1,(.t 16)),(6,1,(.t 17))]⟩,⟨some 5,none,.mov (.t 18)⟩]) (.seq (.seq (.reg [⟨some 19,none,.mov (.t 5)⟩,⟨some 20,none,.mov (.t 1)⟩,⟨some 21,none,.sls 1 (.t 19) none (some (.t 20)) none⟩,⟨some 22,none,.len (.t 21)⟩,⟨some 23,none,.mov (.c (.int .i64 0))⟩]) (.block 0 (.loop (.seq (.reg [⟨some 24,none,.bin .lss (.t 23) (.t 22)⟩]) (.seq (.cond (.t 24) .skip (.exit 0)) (.seq (.block 1 (.seq (.reg [⟨some 25,none,.mov (.t 23)⟩,⟨some 26,none,.isl 1 (.t 21) (.t 23)⟩,⟨some 27,none,.ld none (.t 26)⟩,⟨some 6,none,.mov (.t 25)⟩,⟨some 7,none,.mov (.t 27)⟩]) (.seq (.reg [⟨some 28,none,.mov (.t 7)⟩,⟨some 29,none,.callv (.t 28) []⟩,⟨some 30,none,.un .not (.t 29)⟩]) (.cond (.t 30) (.seq (.reg [⟨some 31,none,.mov (.t 6)⟩,⟨some 32,none,.bin .add (.t 31) (.c (.int .i64 1))⟩,⟨some 4,none,.mov (.t 32)⟩]) .ret) .skip)))) (.reg [⟨some 33,none,.bin .add (.t 23) (.c (.int .i64 1))⟩,⟨some 23,none,.mov (.t 33)⟩]))))))) (.seq (.reg [⟨some 4,none,.mov (.c (.int .i64 0))⟩]) .ret))))
set_option maxRecDepth 100000 in
theorem tr87 : trFn Tryz.prog Tryz.f87 = some (34, ir87, [.tmp 4]) := by kernel_rfl
theorem Hopf_fails (h : HT) (a b up : Nat) (K : Blk) (H : Hp) (n : Nat) (hup : up ≤ 7) (hS : HS h a) (hb : H.get b = some K) (hsz : K.size = 1106) (hK : h.At K.c) (hB : h.By) :
    FnS Tryz.prog 87 [ptr b 0, i64 up] H n (fun r H' _ => r = i64 (firstNot (ax h) 0 up) ∧ H' = H) := by
  refine FnS.of_body Tryz.func87 tr87 (by simp) (fun hf => ?_)
  dsimp only [argEnv]
  unfold ir87
  have hbn := getlt hf hb
  (repeat first|refine zG ?_|(refine LS.nilO ?_;intro nq hnq hltq;try refine zU ?_)|(refine MS.new ?_;intro bq hbq hbqf;try refine zU ?_)|(refine MS.nil ?_;intro nq hnq hltq;have hlq:=hltq _ _ (Hp.get_eq _ _ _);clear hltq;try refine zU ?_)|(refine LS.nilQ ?_;try with_reducible intro nq hnq;try refine zU ?_))
  refine RS.slsTo (by exact rfl) (by exact rfl) rfl (by omega) ?_
  (repeat first|refine zG ?_|(refine LS.nilO ?_;intro nq hnq hltq;try refine zU ?_)|(refine MS.new ?_;intro bq hbq hbqf;try refine zU ?_)|(refine MS.nil ?_;intro nq hnq hltq;have hlq:=hltq _ _ (Hp.get_eq _ _ _);clear hltq;try refine zU ?_)|(refine LS.nilQ ?_;try with_reducible intro nq hnq;try refine zU ?_))
  refine CS.iter up (fun k => [(23, i64 k), (22, i64 up), (21, .s (.slc (n + 1) 0 up 7))]) (fun _ => (n + 1, ⟨7, axF b n, 114⟩) :: (n, ⟨1, fun _ => .ptr b 0, 55⟩) :: H)
    (fun k => firstNot (ax h) 0 up = firstNot (ax h) k (up - k)) (by (repeat first | exact trivial | refine And.intro rfl ?_)) (Drops.keepc rfl rfl (fun q hq => ?_) (Drops.refl _ _)) rfl ?_
  · have hq7 : q < 7 := hq
    have : q = 0 ∨ q = 1 ∨ q = 2 ∨ q = 3 ∨ q = 4 ∨ q = 5 ∨ q = 6 := by omega
    rcases this with rfl | rfl | rfl | rfl | rfl | rfl | rfl <;> rfl
  intro k n1 hk hn hJ
  (repeat first|refine zG ?_|(refine LS.nilO ?_;intro nq hnq hltq;try refine zU ?_)|(refine MS.new ?_;intro bq hbq hbqf;try refine zU ?_)|(refine MS.nil ?_;intro nq hnq hltq;have hlq:=hltq _ _ (Hp.get_eq _ _ _);clear hltq;try refine zU ?_)|(refine LS.nilQ ?_;try with_reducible intro nq hnq;try refine zU ?_))
  refine zI ?_ ?_<;>intro h2
  · obtain ⟨f, pre, post, e, hF⟩ := axF_ok h a b n K ⟨1, fun _ => .ptr b 0, 55⟩ ((n + 1, ⟨7, axF b n, 114⟩) :: (n, ⟨1, fun _ => .ptr b 0, 55⟩) :: H) hS (by exact zH) hsz hK hB (by exact zH) rfl rfl k (by omega)
    have e' : (⟨7, axF b n, 114⟩ : Blk).c (0 + k * 1) = .fn f pre post := by rw [Nat.zero_add, Nat.mul_one]; exact e
    (repeat first|refine zG ?_|(refine LS.nilO ?_;intro nq hnq hltq;try refine zU ?_)|(refine MS.new ?_;intro bq hbq hbqf;try refine zU ?_)|(refine MS.nil ?_;intro nq hnq hltq;have hlq:=hltq _ _ (Hp.get_eq _ _ _);clear hltq;try refine zU ?_)|(refine LS.nilQ ?_;try with_reducible intro nq hnq;try refine zU ?_))
    refine RS.callv (f := f) (pre := pre) (post := post) (vs := []) (by exact rfl) (by exact rfl) ?_
    refine FnS.mono (hF n1) ?_
    rintro r H' n2 hn2 ⟨rfl, rfl⟩
    (repeat first|refine zG ?_|(refine LS.nilO ?_;intro nq hnq hltq;try refine zU ?_)|(refine MS.new ?_;intro bq hbq hbqf;try refine zU ?_)|(refine MS.nil ?_;intro nq hnq hltq;have hlq:=hltq _ _ (Hp.get_eq _ _ _);clear hltq;try refine zU ?_)|(refine LS.nilQ ?_;try with_reducible intro nq hnq;try refine zU ?_))
    refine zI ?_ ?_<;>intro h3
    · (repeat first|refine zG ?_|(refine LS.nilO ?_;intro nq hnq hltq;try refine zU ?_)|(refine MS.new ?_;intro bq hbq hbqf;try refine zU ?_)|(refine MS.nil ?_;intro nq hnq hltq;have hlq:=hltq _ _ (Hp.get_eq _ _ _);clear hltq;try refine zU ?_)|(refine LS.nilQ ?_;try with_reducible intro nq hnq;try refine zU ?_))
      exact ⟨_, H, rfl, by exact zD, by rw [hJ, show up - k = (up - k - 1) + 1 by omega, firstNot_end h3], rfl⟩
    · (repeat first|refine zG ?_|(refine LS.nilO ?_;intro nq hnq hltq;try refine zU ?_)|(refine MS.new ?_;intro bq hbq hbqf;try refine zU ?_)|(refine MS.nil ?_;intro nq hnq hltq;have hlq:=hltq _ _ (Hp.get_eq _ _ _);clear hltq;try refine zU ?_)|(refine LS.nilQ ?_;try with_reducible intro nq hnq;try refine zU ?_))
      exact ⟨by omega, by (repeat first | exact trivial | refine And.intro rfl ?_), by exact zD, by rw [hJ, show up - k = (up - (k + 1)) + 1 by omega, firstNot_go h3]⟩
  · have : k = up := by omega
    subst this
    (repeat first|refine zG ?_|(refine LS.nilO ?_;intro nq hnq hltq;try refine zU ?_)|(refine MS.new ?_;intro bq hbq hbqf;try refine zU ?_)|(refine MS.nil ?_;intro nq hnq hltq;have hlq:=hltq _ _ (Hp.get_eq _ _ _);clear hltq;try refine zU ?_)|(refine LS.nilQ ?_;try with_reducible intro nq hnq;try refine zU ?_))
    exact ⟨_, H, rfl, by exact zD, by rw [hJ, Nat.sub_self]; rfl, rfl⟩
/-- impl.IsHopf -/
def ir58 : Cd := (.seq (.reg [⟨some 1,none,.box 35 (.t 0)⟩,⟨some 2,none,.mov (.c (.bool false))⟩]) (.seq (.reg [⟨some 3,none,.call 86 [(.t 1)]⟩,⟨some 4,none,.mov (.t 3)⟩,⟨some 5,(some (4,true)),.call 87 [(.t 1),(.c (.int .i64 7))]⟩,⟨some 6,(some (4,true)),.bin .eql (.t 5) (.c (.int .i64 0))⟩,⟨some 7,none,.pick (.t 4) (.t 6) (.c (.bool false))⟩,⟨some 2,none,.mov (.t 7)⟩]) .ret))
set_option maxRecDepth 100000 in
theorem tr58 : trFn Tryz.prog Tryz.f58 = some (8, ir58, [.tmp 2]) := by kernel_rfl
theorem impl_IsHopf (h : HT) (K : Nat → SV) (H : Hp) (n : Nat) (hK : h.At K) (hB : h.By) :
    FnS Tryz.prog 58 [.arr 1106 K] H n (fun r H' _ => r = bl (tb (isHopf h)) ∧ H' = H) := by
  refine FnS.of_body Tryz.func58 tr58 (by simp) (fun hf => ?_)
  dsimp only [argEnv]
  unfold ir58
  (repeat first|refine zG ?_|(refine LS.nilO ?_;intro nq hnq hltq;try refine zU ?_)|(refine MS.new ?_;intro bq hbq hbqf;try refine zU ?_)|(refine MS.nil ?_;intro nq hnq hltq;have hlq:=hltq _ _ (Hp.get_eq _ _ _);clear hltq;try refine zU ?_)|(refine LS.nilQ ?_;try with_reducible intro nq hnq;try refine zU ?_))
  refine RS.call rfl ((Hopf_isShaped h n ⟨1106, K, 35⟩ _ _ (by exact zH) rfl hK hB).mono ?_)
  rintro r H' n2 hn2 ⟨rfl, rfl⟩
  (repeat first|refine zG ?_|(refine LS.nilO ?_;intro nq hnq hltq;try refine zU ?_)|(refine MS.new ?_;intro bq hbq hbqf;try refine zU ?_)|(refine MS.nil ?_;intro nq hnq hltq;have hlq:=hltq _ _ (Hp.get_eq _ _ _);clear hltq;try refine zU ?_)|(refine LS.nilQ ?_;try with_reducible intro nq hnq;try refine zU ?_))
  refine RS.sp (t := 4) rfl (fun h1 => ?_) (fun h1 => ?_) <;> (try simp only [tb_eq, tb_eqF, decide_eq_true_eq, decide_eq_false_iff_not, beq_iff_eq, bne_iff_ne, ne_eq, Decidable.not_not, beq_eq_false_iff_ne, bne_eq_false_iff_eq, Bool.not_eq_true', Bool.not_eq_false', Bool.not_eq_eq_eq_not, Bool.not_true, Bool.not_false] at h1)
  · obtain ⟨a, hS⟩ := h1.hs
    (repeat first|refine zG ?_|(refine LS.nilO ?_;intro nq hnq hltq;try refine zU ?_)|(refine MS.new ?_;intro bq hbq hbqf;try refine zU ?_)|(refine MS.nil ?_;intro nq hnq hltq;have hlq:=hltq _ _ (Hp.get_eq _ _ _);clear hltq;try refine zU ?_)|(refine LS.nilQ ?_;try with_reducible intro nq hnq;try refine zU ?_))
    refine RS.call rfl ((Hopf_fails h a n 7 ⟨1106, K, 35⟩ _ _ (by omega) hS (by exact zH) rfl hK hB).mono ?_)
    rintro r H' n3 hn3 ⟨rfl, rfl⟩
    (repeat first|refine zG ?_|(refine LS.nilO ?_;intro nq hnq hltq;try refine zU ?_)|(refine MS.new ?_;intro bq hbq hbqf;try refine zU ?_)|(refine MS.nil ?_;intro nq hnq hltq;have hlq:=hltq _ _ (Hp.get_eq _ _ _);clear hltq;try refine zU ?_)|(refine LS.nilQ ?_;try with_reducible intro nq hnq;try refine zU ?_))
    exact ⟨_, H, rfl, by exact zD, by rw [tb_iff (R := firstNot (ax h) 0 7 = 0) ⟨fun q => q.2, fun q => ⟨h1, q⟩⟩, tb_dec]; rfl, rfl⟩
  · (repeat first|refine zG ?_|(refine LS.nilO ?_;intro nq hnq hltq;try refine zU ?_)|(refine MS.new ?_;intro bq hbq hbqf;try refine zU ?_)|(refine MS.nil ?_;intro nq hnq hltq;have hlq:=hltq _ _ (Hp.get_eq _ _ _);clear hltq;try refine zU ?_)|(refine LS.nilQ ?_;try with_reducible intro nq hnq;try refine zU ?_))
    exact ⟨_, H, rfl, by exact zD, by rw [tb_false (fun q => h1 q.1)], rfl⟩
/-- impl.matricesCode -/
def ir38 : Cd := (.seq (.reg [⟨some 4,none,.mov (.c (.int .i64 0))⟩]) (.seq (.reg [⟨some 8,none,.mov (.t 0)⟩,⟨some 9,none,.ck (.t 8)⟩,⟨some 10,none,.ld (some 1106) (.t 9)⟩,⟨some 11,none,.call 58 [(.t 10)]⟩,⟨some 5,none,.mov (.t 11)⟩]) (.seq (.seq (.reg [⟨some 12,none,.mov (.t 1)⟩,⟨some 13,none,.len (.t 12)⟩,⟨some 14,none,.mov (.c (.int .i64 0))⟩]) (.block 0 (.loop (.seq (.reg [⟨some 15,none,.bin .lss (.t 14) (.t 13)⟩]) (.seq (.cond (.t 15) .skip (.exit 0)) (.seq (.block 1 (.seq (.reg [⟨some 16,none,.isl 1 (.t 12) (.t 14)⟩,⟨some 17,none,.ld none (.t 16)⟩,⟨some 7,none,.mov (.t 17)⟩]) (.drw true [15] [⟨some 18,none,.mov (.t 5)⟩,⟨some 19,none,.mov (.t 18)⟩,⟨some 20,(some (19,true)),.mov (.t 0)⟩,⟨some 21,(some (19,true)),.ck (.t 20)⟩,⟨some 22,(some (19,true)),.fa 0 (.t 21)⟩,⟨some 23,(some (19,true)),.ld none (.t 22)⟩,⟨some 24,(some (19,true)),.mov (.t 0)⟩,⟨some 25,(some (19,true)),.ck (.t 24)⟩,⟨some 26,(some (19,true)),.fa 1 (.t 25)⟩,⟨some 27,(some (19,true)),.ld none (.t 26)⟩,⟨some 28,(some (19,true)),.mov (.t 0)⟩,⟨some 29,(some (19,true)),.ck (.t 28)⟩,⟨some 30,(some (19,true)),.fa 1 (.t 29)⟩,⟨some 31,(some (19,true)),.ld none (.t 30)⟩,⟨some 32,(some (19,true)),.mov (.t 7)⟩,⟨some 33,(some (19,true)),.call 59 [(.t 23),(.t 27),(.t 31),(.t 32)]⟩,⟨some 34,none,.pick (.t 19) (.t 33) (.c (.bool false))⟩,⟨some 5,none,.mov (.t 34)⟩]))) (.reg [⟨some 35,none,.bin .add (.t 14) (.c (.int .i64 1))⟩,⟨some 14,none,.mov (.t 35)⟩]))))))) (.seq (.reg [⟨some 36,none,.mov (.t 5)⟩,⟨some 37,none,.call 40 [(.t 36),(.c (.int .i64 1))]⟩,⟨some 4,none,.mov (.t 37)⟩]) .ret))))
set_option maxRecDepth 100000 in
theorem tr38 : trFn Tryz.prog Tryz.f38 = some (38, ir38, [.tmp 4]) := by kernel_rfl
theorem impl_matricesCode (h : HT) (b : Nat) (v : SV) (len : Nat) (hl : len ≤ 100) (w : Nat → Nat → Int) (K : Blk) (H : Hp) (n : Nat) (hb : H.get b = some K) (hsz : K.size = 1106) (hK : h.At K.c) (hB : h.By) (hv : mls H v len w) (hw : ∀ i, i < len → isBy 64 (w i)) :
    FnS Tryz.prog 38 [ptr b 0, .s v] H n (fun r H' _ => r = i64 (cd (mok h len w)) ∧ H' = H) := by
  have hk0 := hK.p
  have hk1 := hK.n
  obtain ⟨bl1, cc, Kl, rfl, hbl, hsl, hcl⟩ := hv
  refine FnS.of_body Tryz.func38 tr38 (by simp) (fun hf => ?_)
  dsimp only [argEnv]
  unfold ir38
  have hbn := getlt hf hb
  (repeat first|refine zG ?_|(refine LS.nilO ?_;intro nq hnq hltq;try refine zU ?_)|(refine MS.new ?_;intro bq hbq hbqf;try refine zU ?_)|(refine MS.nil ?_;intro nq hnq hltq;have hlq:=hltq _ _ (Hp.get_eq _ _ _);clear hltq;try refine zU ?_)|(refine LS.nilQ ?_;try with_reducible intro nq hnq;try refine zU ?_))
  refine RS.call rfl ((FnS.args (concs_cons (conc_arr (fun q hq => rfl)) rfl) (impl_IsHopf h K.c _ _ hK hB)).mono ?_)
  rintro r H n2 hn2 ⟨rfl, rfl⟩
  (repeat first|refine zG ?_|(refine LS.nilO ?_;intro nq hnq hltq;try refine zU ?_)|(refine MS.new ?_;intro bq hbq hbqf;try refine zU ?_)|(refine MS.nil ?_;intro nq hnq hltq;have hlq:=hltq _ _ (Hp.get_eq _ _ _);clear hltq;try refine zU ?_)|(refine LS.nilQ ?_;try with_reducible intro nq hnq;try refine zU ?_))
  rw [tb_iff (R := mok h 0 w) ⟨fun q => ⟨q, fun i hi => by omega⟩, fun q => q.1⟩]
  refine CS.iter len (fun i => [(14, i64 i), (13, i64 len), (12, .s (.slc bl1 0 len cc)), (5, bl (tb (mok h i w))), (0, ptr b 0)]) (fun _ => H) (fun _ => True) (by (repeat first | exact trivial | refine And.intro rfl ?_)) (Drops.refl _ _) trivial ?_
  intro i n3 hi hn _
  (repeat first|refine zG ?_|(refine LS.nilO ?_;intro nq hnq hltq;try refine zU ?_)|(refine MS.new ?_;intro bq hbq hbqf;try refine zU ?_)|(refine MS.nil ?_;intro nq hnq hltq;have hlq:=hltq _ _ (Hp.get_eq _ _ _);clear hltq;try refine zU ?_)|(refine LS.nilQ ?_;try with_reducible intro nq hnq;try refine zU ?_))
  refine zI ?_ ?_<;>intro h2
  · obtain ⟨bi, Ki, c1, c2, c3, c4⟩ := hcl i (by omega)
    (repeat first|refine zG ?_|(refine LS.nilO ?_;intro nq hnq hltq;try refine zU ?_)|(refine MS.new ?_;intro bq hbq hbqf;try refine zU ?_)|(refine MS.nil ?_;intro nq hnq hltq;have hlq:=hltq _ _ (Hp.get_eq _ _ _);clear hltq;try refine zU ?_)|(refine LS.nilQ ?_;try with_reducible intro nq hnq;try refine zU ?_))
    refine RS.sp (t := 19) rfl (fun h3 => ?_) (fun h3 => ?_) <;> (try simp only [tb_eq, tb_eqF, decide_eq_true_eq, decide_eq_false_iff_not, beq_iff_eq, bne_iff_ne, ne_eq, Decidable.not_not, beq_eq_false_iff_ne, bne_eq_false_iff_eq, Bool.not_eq_true', Bool.not_eq_false', Bool.not_eq_eq_eq_not, Bool.not_true, Bool.not_false] at h3)
    · (repeat first|refine zG ?_|(refine LS.nilO ?_;intro nq hnq hltq;try refine zU ?_)|(refine MS.new ?_;intro bq hbq hbqf;try refine zU ?_)|(refine MS.nil ?_;intro nq hnq hltq;have hlq:=hltq _ _ (Hp.get_eq _ _ _);clear hltq;try refine zU ?_)|(refine LS.nilQ ?_;try with_reducible intro nq hnq;try refine zU ?_))
      refine RS.call rfl ((impl_isLinear h.p h.n h.n (w i) bi 0 Ki _ _ (by exact zH) (by omega) c4 (hw i (by omega))).mono ?_)
      rintro r H n4 hn4 ⟨rfl, rfl⟩
      rw [mok_step h3]
      (repeat first|refine zG ?_|(refine LS.nilO ?_;intro nq hnq hltq;try refine zU ?_)|(refine MS.new ?_;intro bq hbq hbqf;try refine zU ?_)|(refine MS.nil ?_;intro nq hnq hltq;have hlq:=hltq _ _ (Hp.get_eq _ _ _);clear hltq;try refine zU ?_)|(refine LS.nilQ ?_;try with_reducible intro nq hnq;try refine zU ?_))
      exact ⟨by omega, by (repeat first | exact trivial | refine And.intro rfl ?_), Drops.refl _ _, trivial⟩
    · (repeat first|refine zG ?_|(refine LS.nilO ?_;intro nq hnq hltq;try refine zU ?_)|(refine MS.new ?_;intro bq hbq hbqf;try refine zU ?_)|(refine MS.nil ?_;intro nq hnq hltq;have hlq:=hltq _ _ (Hp.get_eq _ _ _);clear hltq;try refine zU ?_)|(refine LS.nilQ ?_;try with_reducible intro nq hnq;try refine zU ?_))
      rw [← tb_false (mok_no h3)]
      exact ⟨by omega, by (repeat first | exact trivial | refine And.intro rfl ?_), Drops.refl _ _, trivial⟩
  · have : i = len := by omega
    subst this
    (repeat first|refine zG ?_|(refine LS.nilO ?_;intro nq hnq hltq;try refine zU ?_)|(refine MS.new ?_;intro bq hbq hbqf;try refine zU ?_)|(refine MS.nil ?_;intro nq hnq hltq;have hlq:=hltq _ _ (Hp.get_eq _ _ _);clear hltq;try refine zU ?_)|(refine LS.nilQ ?_;try with_reducible intro nq hnq;try refine zU ?_))
    refine RS.call rfl ((impl_unless _ _ _).mono ?_)
    rintro r H n4 hn4 ⟨rfl, rfl⟩
    (repeat first|refine zG ?_|(refine LS.nilO ?_;intro nq hnq hltq;try refine zU ?_)|(refine MS.new ?_;intro bq hbq hbqf;try refine zU ?_)|(refine MS.nil ?_;intro nq hnq hltq;have hlq:=hltq _ _ (Hp.get_eq _ _ _);clear hltq;try refine zU ?_)|(refine LS.nilQ ?_;try with_reducible intro nq hnq;try refine zU ?_))
    exact ⟨_, H, rfl, by exact zD, rfl, rfl⟩
/-- spec.l10Code -/
def ir35 : Cd := (.seq (.reg [⟨some 2,none,.box 35 (.t 0)⟩,⟨some 4,none,.mov (.c (.int .i64 0))⟩]) (.seq (.seq (.reg [⟨some 7,none,.ld (some 1106) (.t 2)⟩,⟨some 8,none,.call 44 [(.t 7)]⟩,⟨some 9,none,.un .not (.t 8)⟩]) (.cond (.t 9) (.seq (.reg [⟨some 4,none,.mov (.c (.int .i64 1))⟩]) .ret) .skip)) (.seq (.seq (.reg [⟨some 5,none,.mov (.c (.int .i64 0))⟩]) (.block 0 (.loop (.seq (.seq (.reg [⟨some 10,none,.mov (.t 5)⟩,⟨some 11,none,.mov (.t 1)⟩,⟨some 12,none,.len (.t 11)⟩,⟨some 13,none,.bin .lss (.t 10) (.t 12)⟩]) (.cond (.t 13) .skip (.exit 0))) (.seq (.block 1 (.seq (.seq (.drw true [8] [⟨some 16,none,.fa 0 (.t 2)⟩,⟨some 17,none,.ld none (.t 16)⟩,⟨some 18,none,.fa 1 (.t 2)⟩,⟨some 19,none,.ld none (.t 18)⟩,⟨some 20,none,.mov (.t 1)⟩,⟨some 21,none,.mov (.t 5)⟩,⟨some 22,none,.isl 64 (.t 20) (.t 21)⟩,⟨some 23,none,.ld (some 64) (.t 22)⟩,⟨some 24,none,.call 45 [(.t 17),(.t 19),(.t 23)]⟩,⟨some 25,none,.un .not (.t 24)⟩]) (.cond (.t 25) (.seq (.reg [⟨some 4,none,.mov (.c (.int .i64 1))⟩]) .ret) .skip)) (.seq (.reg [⟨some 26,none,.fa 1 (.t 2)⟩,⟨some 27,none,.ld none (.t 26)⟩,⟨some 6,none,.mov (.t 27)⟩]) (.block 2 (.loop (.seq (.seq (.reg [⟨some 28,none,.mov (.t 6)⟩,⟨some 29,none,.bin .lss (.t 28) (.c (.int .i64 8))⟩]) (.cond (.t 29) .skip (.exit 2))) (.seq (.block 3 (.seq (.reg [⟨some 32,none,.mov (.t 1)⟩,⟨some 33,none,.mov (.t 5)⟩,⟨some 34,none,.mov (.t 6)⟩,⟨some 35,none,.isl 64 (.t 32) (.t 33)⟩,⟨some 36,none,.ia 8 8 (.t 35) (.t 34)⟩,⟨some 37,none,.ld (some 8) (.t 36)⟩,⟨some 38,none,.call 54 [(.t 37)]⟩,⟨some 39,none,.un .not (.t 38)⟩]) (.cond (.t 39) (.seq (.reg [⟨some 4,none,.mov (.c (.int .i64 1))⟩]) .ret) .skip))) (.reg [⟨some 30,none,.mov (.t 6)⟩,⟨some 31,none,.bin .add (.t 30) (.c (.int .i64 1))⟩,⟨some 6,none,.mov (.t 31)⟩])))))))) (.reg [⟨some 14,none,.mov (.t 5)⟩,⟨some 15,none,.bin .add (.t 14) (.c (.int .i64 1))⟩,⟨some 5,none,.mov (.t 15)⟩])))))) (.seq (.reg [⟨some 4,none,.mov (.c (.int .i64 0))⟩]) .ret))))
set_option maxRecDepth 100000 in
theorem tr35 : trFn Tryz.prog Tryz.f35 = some (40, ir35, [.tmp 4]) := by kernel_rfl
theorem spec_l10Code (h : HT) (v : SV) (len : Nat) (hl : len ≤ 100) (w : Nat → Nat → Int) (K : Nat → SV) (H : Hp) (n : Nat) (hK : h.At K) (hB : h.By) (hv : mlv H v len w) (hw : ∀ i, i < len → isBy 64 (w i)) :
    FnS Tryz.prog 35 [.arr 1106 K, .s v] H n (fun r H' _ => r = i64 (cd (mok h len w)) ∧ H' = H) := by
  have hk0 := hK.p
  have hk1 := hK.n
  obtain ⟨bl1, cc, Kl, rfl, hbl, hsl, hcl⟩ := hv
  refine FnS.of_body Tryz.func35 tr35 (by simp) (fun hf => ?_)
  dsimp only [argEnv]
  unfold ir35
  have hbn := getlt hf hbl
  (repeat first|refine zG ?_|(refine LS.nilO ?_;intro nq hnq hltq;try refine zU ?_)|(refine MS.new ?_;intro bq hbq hbqf;try refine zU ?_)|(refine MS.nil ?_;intro nq hnq hltq;have hlq:=hltq _ _ (Hp.get_eq _ _ _);clear hltq;try refine zU ?_)|(refine LS.nilQ ?_;try with_reducible intro nq hnq;try refine zU ?_))
  refine RS.call rfl ((FnS.args (concs_cons (conc_arr (fun q hq => rfl)) rfl) (spec_l03Is h K _ _ hK hB)).mono ?_)
  rintro r H' n2 hn2 ⟨rfl, rfl⟩
  (repeat first|refine zG ?_|(refine LS.nilO ?_;intro nq hnq hltq;try refine zU ?_)|(refine MS.new ?_;intro bq hbq hbqf;try refine zU ?_)|(refine MS.nil ?_;intro nq hnq hltq;have hlq:=hltq _ _ (Hp.get_eq _ _ _);clear hltq;try refine zU ?_)|(refine LS.nilQ ?_;try with_reducible intro nq hnq;try refine zU ?_))
  refine zI ?_ ?_<;>intro h1
  · (repeat first|refine zG ?_|(refine LS.nilO ?_;intro nq hnq hltq;try refine zU ?_)|(refine MS.new ?_;intro bq hbq hbqf;try refine zU ?_)|(refine MS.nil ?_;intro nq hnq hltq;have hlq:=hltq _ _ (Hp.get_eq _ _ _);clear hltq;try refine zU ?_)|(refine LS.nilQ ?_;try with_reducible intro nq hnq;try refine zU ?_))
    exact ⟨_, H, rfl, by exact zD, by rw [cd_false (fun q : mok h len w => h1 q.1)], rfl⟩
  obtain ⟨a, hS⟩ := isHopf.hs (show isHopf h from h1)
  have ha := hS.ha
  (repeat first|refine zG ?_|(refine LS.nilO ?_;intro nq hnq hltq;try refine zU ?_)|(refine MS.new ?_;intro bq hbq hbqf;try refine zU ?_)|(refine MS.nil ?_;intro nq hnq hltq;have hlq:=hltq _ _ (Hp.get_eq _ _ _);clear hltq;try refine zU ?_)|(refine LS.nilQ ?_;try with_reducible intro nq hnq;try refine zU ?_))
  refine CS.iter len (fun i => [(5, i64 i), (1, .s (.slc bl1 0 len cc)), (2, ptr n 0)]) (fun _ => (n, ⟨1106, K, 35⟩) :: H) (fun i => ∀ j, j < i → isLin h.p h.n h.n (w j)) (by (repeat first | exact trivial | refine And.intro rfl ?_)) (Drops.refl _ _) (fun _ h => by omega) ?_
  intro i n3 hi hn hJ
  (repeat first|refine zG ?_|(refine LS.nilO ?_;intro nq hnq hltq;try refine zU ?_)|(refine MS.new ?_;intro bq hbq hbqf;try refine zU ?_)|(refine MS.nil ?_;intro nq hnq hltq;have hlq:=hltq _ _ (Hp.get_eq _ _ _);clear hltq;try refine zU ?_)|(refine LS.nilQ ?_;try with_reducible intro nq hnq;try refine zU ?_))
  refine zI ?_ ?_<;>intro h2
  · have hr := hcl i (by omega)
    (repeat first|refine zG ?_|(refine LS.nilO ?_;intro nq hnq hltq;try refine zU ?_)|(refine MS.new ?_;intro bq hbq hbqf;try refine zU ?_)|(refine MS.nil ?_;intro nq hnq hltq;have hlq:=hltq _ _ (Hp.get_eq _ _ _);clear hltq;try refine zU ?_)|(refine LS.nilQ ?_;try with_reducible intro nq hnq;try refine zU ?_))
    refine RS.call rfl ((spec_l01Linear h.p h.n (w i) _ _ (hw i (by omega))).mono ?_)
    rintro r H' n4 hn4 ⟨rfl, rfl⟩
    (repeat first|refine zG ?_|(refine LS.nilO ?_;intro nq hnq hltq;try refine zU ?_)|(refine MS.new ?_;intro bq hbq hbqf;try refine zU ?_)|(refine MS.nil ?_;intro nq hnq hltq;have hlq:=hltq _ _ (Hp.get_eq _ _ _);clear hltq;try refine zU ?_)|(refine LS.nilQ ?_;try with_reducible intro nq hnq;try refine zU ?_))
    refine zI ?_ ?_<;>intro h3
    · (repeat first|refine zG ?_|(refine LS.nilO ?_;intro nq hnq hltq;try refine zU ?_)|(refine MS.new ?_;intro bq hbq hbqf;try refine zU ?_)|(refine MS.nil ?_;intro nq hnq hltq;have hlq:=hltq _ _ (Hp.get_eq _ _ _);clear hltq;try refine zU ?_)|(refine LS.nilQ ?_;try with_reducible intro nq hnq;try refine zU ?_))
      exact ⟨_, H, rfl, by exact zD, by rw [cd_false (fun q : mok h len w => h3 (q.2 i (by omega)))], rfl⟩
    have hz : lz a (w i) := by
      have := h3
      rw [hS.hn] at this
      exact this.lz
    have hk1' := hS.hn
    (repeat first|refine zG ?_|(refine LS.nilO ?_;intro nq hnq hltq;try refine zU ?_)|(refine MS.new ?_;intro bq hbq hbqf;try refine zU ?_)|(refine MS.nil ?_;intro nq hnq hltq;have hlq:=hltq _ _ (Hp.get_eq _ _ _);clear hltq;try refine zU ?_)|(refine LS.nilQ ?_;try with_reducible intro nq hnq;try refine zU ?_))
    refine CS.iter (8 - a) (fun t => [(6, i64 ((a + t : Nat) : Int)), (5, i64 i), (1, .s (.slc bl1 0 len cc)), (2, ptr n 0)]) (fun _ => (n, ⟨1106, K, 35⟩) :: H) (fun _ => True) (by rw [hk1']; (repeat first | exact trivial | refine And.intro rfl ?_)) (Drops.refl _ _) trivial ?_
    intro t n5 ht hn5 _
    (repeat first|refine zG ?_|(refine LS.nilO ?_;intro nq hnq hltq;try refine zU ?_)|(refine MS.new ?_;intro bq hbq hbqf;try refine zU ?_)|(refine MS.nil ?_;intro nq hnq hltq;have hlq:=hltq _ _ (Hp.get_eq _ _ _);clear hltq;try refine zU ?_)|(refine LS.nilQ ?_;try with_reducible intro nq hnq;try refine zU ?_))
    refine zI ?_ ?_<;>intro h4
    · (repeat first|refine zG ?_|(refine LS.nilO ?_;intro nq hnq hltq;try refine zU ?_)|(refine MS.new ?_;intro bq hbq hbqf;try refine zU ?_)|(refine MS.nil ?_;intro nq hnq hltq;have hlq:=hltq _ _ (Hp.get_eq _ _ _);clear hltq;try refine zU ?_)|(refine LS.nilQ ?_;try with_reducible intro nq hnq;try refine zU ?_))
      refine RS.call rfl ((FnS.args (concs_cons (conc_arr (fun q hq => by rw [show 0 + (i * 64 + 8 * (a + t)) + q = 0 + i * 64 + (8 * (a + t) + q) by omega]; exact hr _ (by omega))) rfl) (spec_l01Zero (fun x => w i (8 * (a + t) + x)) _ _)).mono ?_)
      rintro r H' n6 hn6 ⟨rfl, rfl⟩
      rw [tb_true (fun q hq => hz (a + t) q (by omega) hq (by omega))]
      (repeat first|refine zG ?_|(refine LS.nilO ?_;intro nq hnq hltq;try refine zU ?_)|(refine MS.new ?_;intro bq hbq hbqf;try refine zU ?_)|(refine MS.nil ?_;intro nq hnq hltq;have hlq:=hltq _ _ (Hp.get_eq _ _ _);clear hltq;try refine zU ?_)|(refine LS.nilQ ?_;try with_reducible intro nq hnq;try refine zU ?_))
      exact ⟨by omega, by (repeat first | exact trivial | refine And.intro rfl ?_), Drops.refl _ _, trivial⟩
    · (repeat first|refine zG ?_|(refine LS.nilO ?_;intro nq hnq hltq;try refine zU ?_)|(refine MS.new ?_;intro bq hbq hbqf;try refine zU ?_)|(refine MS.nil ?_;intro nq hnq hltq;have hlq:=hltq _ _ (Hp.get_eq _ _ _);clear hltq;try refine zU ?_)|(refine LS.nilQ ?_;try with_reducible intro nq hnq;try refine zU ?_))
      refine ⟨by omega, by (repeat first | exact trivial | refine And.intro rfl ?_), Drops.refl _ _, fun j hj => ?_⟩
      by_cases e : j = i
      · subst e; exact h3
      · exact hJ j (by omega)
  · have : i = len := by omega
    subst this
    (repeat first|refine zG ?_|(refine LS.nilO ?_;intro nq hnq hltq;try refine zU ?_)|(refine MS.new ?_;intro bq hbq hbqf;try refine zU ?_)|(refine MS.nil ?_;intro nq hnq hltq;have hlq:=hltq _ _ (Hp.get_eq _ _ _);clear hltq;try refine zU ?_)|(refine LS.nilQ ?_;try with_reducible intro nq hnq;try refine zU ?_))
    exact ⟨_, H, rfl, by exact zD, by rw [cd_true (show mok h i w from ⟨h1, hJ⟩)], rfl⟩
/-- impl.TwistedCoalgebra -/
def ir18 : Cd := (.seq (.reg [⟨some 2,none,.box 35 (.t 0)⟩,⟨some 3,none,.box 29 (.t 1)⟩,⟨some 4,none,.new 46 [(2,(.int .i64 0)),(520,(.int .u8 0))]⟩,⟨some 5,none,.mov (.c (.int .i64 0))⟩]) (.seq (.reg [⟨some 9,none,.bsl 56 1 1 [(1,.nil)] [(0,1,(.t 3))]⟩,⟨some 10,none,.call 38 [(.t 2),(.t 9)]⟩,⟨some 6,none,.mov (.t 10)⟩]) (.seq (.seq (.reg [⟨some 11,none,.mov (.t 6)⟩,⟨some 12,none,.mov (.t 6)⟩,⟨some 13,none,.bin .neq (.t 12) (.c (.int .i64 0))⟩,⟨some 14,none,.mov (.t 13)⟩,⟨some 15,(some (14,false)),.call 41 [(.t 2),(.t 3)]⟩,⟨some 16,none,.pick (.t 14) (.c (.bool true)) (.t 15)⟩,⟨some 17,none,.call 40 [(.t 16),(.c (.int .i64 5))]⟩,⟨some 18,none,.bsl 2 2 1 [(1,(.int .i64 0))] [(0,1,(.t 11)),(1,1,(.t 17))]⟩,⟨some 19,none,.call 39 [(.t 18)]⟩,⟨some 6,none,.mov (.t 19)⟩]) (.seq (.reg [⟨some 20,none,.mov (.t 6)⟩,⟨some 21,none,.bin .neq (.t 20) (.c (.int .i64 0))⟩]) (.cond (.t 21) (.seq (.reg [⟨some 22,none,.build 522 [(2,(.int .i64 0)),(520,(.int .u8 0))] []⟩,⟨some 23,none,.mov (.t 6)⟩,⟨none,none,.st 522 (.t 4) (.t 22)⟩,⟨some 5,none,.mov (.t 23)⟩]) .ret) .skip))) (.seq (.reg [⟨some 24,none,.fa 0 (.t 2)⟩,⟨some 25,none,.ld none (.t 24)⟩,⟨some 26,none,.fa 1 (.t 2)⟩,⟨some 27,none,.ld none (.t 26)⟩,⟨some 28,none,.fa 522 (.t 2)⟩,⟨some 29,none,.ld (some 8) (.t 28)⟩,⟨some 30,none,.build 522 [(2,(.int .i64 0)),(520,(.int .u8 0))] [(0,1,(.t 25)),(1,1,(.t 27)),(2,8,(.t 29))]⟩,⟨some 7,none,.new 46 [(2,(.int .i64 0)),(520,(.int .u8 0))]⟩,⟨none,none,.st 522 (.t 7) (.t 30)⟩]) (.seq (.seq (.reg [⟨some 31,none,.fa 1 (.t 2)⟩,⟨some 32,none,.ld none (.t 31)⟩,⟨some 33,none,.mov (.c (.int .i64 0))⟩]) (.block 0 (.loop (.seq (.reg [⟨some 34,none,.bin .lss (.t 33) (.t 32)⟩]) (.seq (.cond (.t 34) .skip (.exit 0)) (.seq (.block 1 (.seq (.reg [⟨some 35,none,.mov (.t 33)⟩,⟨some 8,none,.mov (.t 35)⟩]) (.reg [⟨some 36,none,.mov (.t 8)⟩,⟨some 37,none,.mov (.t 8)⟩,⟨some 38,none,.fa 530 (.t 2)⟩,⟨some 39,none,.ia 8 64 (.t 38) (.t 37)⟩,⟨some 40,none,.call 42 [(.t 2),(.t 3),(.t 39)]⟩,⟨some 41,none,.fa 10 (.t 7)⟩,⟨some 42,none,.ia 8 64 (.t 41) (.t 36)⟩,⟨none,none,.st 64 (.t 42) (.t 40)⟩]))) (.reg [⟨some 43,none,.bin .add (.t 33) (.c (.int .i64 1))⟩,⟨some 33,none,.mov (.t 43)⟩]))))))) (.seq (.reg [⟨some 44,none,.ld (some 522) (.t 7)⟩,⟨none,none,.st 522 (.t 4) (.t 44)⟩,⟨some 5,none,.mov (.c (.int .i64 0))⟩]) .ret))))))
set_option maxRecDepth 100000 in
theorem tr18 : trFn Tryz.prog Tryz.f18 = some (45, ir18, [.cell (some 522) 4, .tmp 5]) := by kernel_rfl
theorem impl_TwistedCoalgebra (h : HT) (s : Nat → Int) (K : Nat → SV) (H : Hp) (n : Nat) (hK : h.At K) (hB : h.By) (hs : isBy 64 s) :
    FnS Tryz.prog 18 [.arr 1106 K, .arr 64 (bys s)] H n (fun r H' _ => r = .tup [.arr 522 (algV (mok h 1 (fun _ => s) ∧ isTw h s) h.p h.n h.e (upto (tcm h.p h.m h.c s) (64 * h.N))), i64 (sc5 (mok h 1 (fun _ => s)) (isTw h s))] ∧ H' = H) := by
  have hk0 := hK.p
  have hk1 := hK.n
  have hk2 := hK.e
  refine FnS.of_body Tryz.func18 tr18 (by simp) (fun hf => ?_)
  dsimp only [argEnv]
  unfold ir18
  (repeat first|refine zG ?_|(refine LS.nilO ?_;intro nq hnq hltq;try refine zU ?_)|(refine MS.new ?_;intro bq hbq hbqf;try refine zU ?_)|(refine MS.nil ?_;intro nq hnq hltq;have hlq:=hltq _ _ (Hp.get_eq _ _ _);clear hltq;try refine zU ?_)|(refine LS.nilQ ?_;try with_reducible intro nq hnq;try refine zU ?_))
  refine RS.call rfl ((impl_matricesCode h n (.slc (n + 3) 0 1 1) 1 (by omega) (fun _ => s) ⟨1106, K, 35⟩ _ _ (by exact zH) rfl hK hB ⟨n + 3, 1, _, rfl, by exact zH, (by simp), fun i hi => ⟨n + 1, ⟨64, bys s, 29⟩, by (obtain rfl : i = 0 := by omega); rfl, by exact zH, (by simp), fun q hq => by rw [Nat.zero_add]; rfl⟩⟩ (fun _ _ => hs)).mono ?_)
  rintro r H' n2 hn2 ⟨rfl, rfl⟩
  by_cases h3 : mok h 1 (fun _ => s)
  · rw [cd_true h3]
    obtain ⟨a, hS⟩ := isHopf.hs h3.1
    have hN := hS.N
    subst hN
    have hp := hS.hp
    have ha := hS.ha
    have hz0 := h3.lz hS (show 0 < 1 by omega)
    rw [hS.hn] at hk1
    (repeat first|refine zG ?_|(refine LS.nilO ?_;intro nq hnq hltq;try refine zU ?_)|(refine MS.new ?_;intro bq hbq hbqf;try refine zU ?_)|(refine MS.nil ?_;intro nq hnq hltq;have hlq:=hltq _ _ (Hp.get_eq _ _ _);clear hltq;try refine zU ?_)|(refine LS.nilQ ?_;try with_reducible intro nq hnq;try refine zU ?_))
    refine RS.call rfl ((Hopf_isTwist h h.N s n (n + 1) 0 ⟨1106, K, 35⟩ ⟨64, bys s, 29⟩ _ _ hS (by exact zH) rfl hK hB (by exact zH) (by simp) (fun q hq => by rw [Nat.zero_add]; rfl) hs hz0).mono ?_)
    rintro r H' n3 hn3 ⟨rfl, rfl⟩
    by_cases h4 : isTw h s
    · rw [tb_true h4]
      (repeat first|refine zG ?_|(refine LS.nilO ?_;intro nq hnq hltq;try refine zU ?_)|(refine MS.new ?_;intro bq hbq hbqf;try refine zU ?_)|(refine MS.nil ?_;intro nq hnq hltq;have hlq:=hltq _ _ (Hp.get_eq _ _ _);clear hltq;try refine zU ?_)|(refine LS.nilQ ?_;try with_reducible intro nq hnq;try refine zU ?_))
      refine RS.call rfl ((impl_unlessB true 5 _ _).mono ?_)
      rintro r H' n4 hn4 ⟨rfl, rfl⟩
      simp only [↓reduceIte]
      (repeat first|refine zG ?_|(refine LS.nilO ?_;intro nq hnq hltq;try refine zU ?_)|(refine MS.new ?_;intro bq hbq hbqf;try refine zU ?_)|(refine MS.nil ?_;intro nq hnq hltq;have hlq:=hltq _ _ (Hp.get_eq _ _ _);clear hltq;try refine zU ?_)|(refine LS.nilQ ?_;try with_reducible intro nq hnq;try refine zU ?_))
      refine RS.call rfl ((impl_first2 n4 2 0 0 _ _ _ (by exact zH) rfl rfl rfl).mono ?_)
      rintro r H' n5 hn5 ⟨rfl, rfl⟩
      simp only [ne_eq, not_true_eq_false, ↓reduceIte]
      (repeat first|refine zG ?_|(refine LS.nilO ?_;intro nq hnq hltq;try refine zU ?_)|(refine MS.new ?_;intro bq hbq hbqf;try refine zU ?_)|(refine MS.nil ?_;intro nq hnq hltq;have hlq:=hltq _ _ (Hp.get_eq _ _ _);clear hltq;try refine zU ?_)|(refine LS.nilQ ?_;try with_reducible intro nq hnq;try refine zU ?_))
      refine CS.iter h.N (fun i => [(33, i64 i), (32, i64 h.N), (2, ptr n 0), (3, ptr (n + 1) 0), (4, ptr (n + 2) 0), (7, ptr n5 0)]) (fun i => (n5, ⟨522, algC h.p h.N h.e (upto (tcm h.p h.m h.c s) (64 * i)), 46⟩) :: (n + 2, ⟨522, Zs.c [(2, .int .i64 0), (520, .int .u8 0)], 46⟩) :: (n + 1, ⟨64, bys s, 29⟩) :: (n, ⟨1106, K, 35⟩) :: H) (fun _ => True) (by (repeat first | exact trivial | refine And.intro rfl ?_))
        (Drops.keepc rfl rfl (fun q hq => by
          show splice (put1 (put1 (Zs.c [(2, .int .i64 0), (520, .int .u8 0)]) 0 (.int .i64 h.p)) 1 (.int .i64 h.N)) 2 8 (bys h.e) q = _
          have hz : Zs.c [(2, SV.int IntKind.i64 0), (520, SV.int IntKind.u8 0)] q = if q < 2 then .int .i64 0 else .int .u8 0 := rfl
          rw [upto_zero]
          unfold splice put1 bys
          rw [hz]
          show _ = algC h.p h.N h.e (fun _ => 0) q
          unfold algC
          (repeat' split) <;> first | rfl | omega) (by first | exact Drops.refl _ _ | exact zD)) trivial ?_
      intro i m1 hi hm1 _
      (repeat first|refine zG ?_|(refine LS.nilO ?_;intro nq hnq hltq;try refine zU ?_)|(refine MS.new ?_;intro bq hbq hbqf;try refine zU ?_)|(refine MS.nil ?_;intro nq hnq hltq;have hlq:=hltq _ _ (Hp.get_eq _ _ _);clear hltq;try refine zU ?_)|(refine LS.nilQ ?_;try with_reducible intro nq hnq;try refine zU ?_))
      refine zI ?_ ?_<;>intro h5
      · (repeat first|refine zG ?_|(refine LS.nilO ?_;intro nq hnq hltq;try refine zU ?_)|(refine MS.new ?_;intro bq hbq hbqf;try refine zU ?_)|(refine MS.nil ?_;intro nq hnq hltq;have hlq:=hltq _ _ (Hp.get_eq _ _ _);clear hltq;try refine zU ?_)|(refine LS.nilQ ?_;try with_reducible intro nq hnq;try refine zU ?_))
        have h8 : ∀ q, q < 64 → K (530 + 64 * i + q) = .int .u8 (h.c (64 * i + q)) := fun q hq => by rw [← hK.c _ (by omega)]; congr 1; omega
        refine RS.call rfl ((Hopf_tensor h h.N s (fun x => h.c (64 * i + x)) n (n + 1) 0 n (530 + 64 * i) ⟨1106, K, 35⟩ ⟨64, bys s, 29⟩ ⟨1106, K, 35⟩ _ _ hS (by exact zH) rfl hK hB hs (fun x hx => hB.c _ (by omega)) (by exact zH) (by simp) (fun q hq => by rw [Nat.zero_add]; rfl) (by exact zH) (by (try dsimp only); omega) h8).mono ?_)
        rintro r H' n6 hn6 ⟨rfl, rfl⟩
        (repeat first|refine zG ?_|(refine LS.nilO ?_;intro nq hnq hltq;try refine zU ?_)|(refine MS.new ?_;intro bq hbq hbqf;try refine zU ?_)|(refine MS.nil ?_;intro nq hnq hltq;have hlq:=hltq _ _ (Hp.get_eq _ _ _);clear hltq;try refine zU ?_)|(refine LS.nilQ ?_;try with_reducible intro nq hnq;try refine zU ?_))
        refine ⟨by omega, by (repeat first | exact trivial | refine And.intro rfl ?_), Drops.keepc rfl rfl (fun q hq => algC_tab (fun q => upto_step (fun y hy => tcm_at _ _ _ _ _ _ hy) q) q) (Drops.refl _ _), trivial⟩
      · obtain rfl : i = h.N := by omega
        (repeat first|refine zG ?_|(refine LS.nilO ?_;intro nq hnq hltq;try refine zU ?_)|(refine MS.new ?_;intro bq hbq hbqf;try refine zU ?_)|(refine MS.nil ?_;intro nq hnq hltq;have hlq:=hltq _ _ (Hp.get_eq _ _ _);clear hltq;try refine zU ?_)|(refine LS.nilQ ?_;try with_reducible intro nq hnq;try refine zU ?_))
        exact ⟨.tup [.arr 522 (algV (mok h 1 (fun _ => s) ∧ isTw h s) h.p h.n h.e (upto (tcm h.p h.m h.c s) (64 * h.N))), i64 (sc5 (mok h 1 (fun _ => s)) (isTw h s))], H, conc_tup2 (conc_arr (fun q hq => by rw [algV_true ⟨h3, h4⟩, hS.hn]; first | rfl | (simp only [Nat.zero_add]; done) | (simp only [Nat.zero_add]; rfl))) (by rw [sc5_0 h3 h4]), by exact zD, rfl, rfl⟩
    · rw [tb_false h4]
      (repeat first|refine zG ?_|(refine LS.nilO ?_;intro nq hnq hltq;try refine zU ?_)|(refine MS.new ?_;intro bq hbq hbqf;try refine zU ?_)|(refine MS.nil ?_;intro nq hnq hltq;have hlq:=hltq _ _ (Hp.get_eq _ _ _);clear hltq;try refine zU ?_)|(refine LS.nilQ ?_;try with_reducible intro nq hnq;try refine zU ?_))
      refine RS.call rfl ((impl_unlessB false 5 _ _).mono ?_)
      rintro r H' n4 hn4 ⟨rfl, rfl⟩
      simp only [Bool.false_eq_true, ↓reduceIte]
      (repeat first|refine zG ?_|(refine LS.nilO ?_;intro nq hnq hltq;try refine zU ?_)|(refine MS.new ?_;intro bq hbq hbqf;try refine zU ?_)|(refine MS.nil ?_;intro nq hnq hltq;have hlq:=hltq _ _ (Hp.get_eq _ _ _);clear hltq;try refine zU ?_)|(refine LS.nilQ ?_;try with_reducible intro nq hnq;try refine zU ?_))
      refine RS.call rfl ((impl_first2 n4 2 0 5 _ _ _ (by exact zH) rfl rfl rfl).mono ?_)
      rintro r H' n5 hn5 ⟨rfl, rfl⟩
      simp only [ne_eq, not_true_eq_false, ↓reduceIte]
      (repeat first|refine zG ?_|(refine LS.nilO ?_;intro nq hnq hltq;try refine zU ?_)|(refine MS.new ?_;intro bq hbq hbqf;try refine zU ?_)|(refine MS.nil ?_;intro nq hnq hltq;have hlq:=hltq _ _ (Hp.get_eq _ _ _);clear hltq;try refine zU ?_)|(refine LS.nilQ ?_;try with_reducible intro nq hnq;try refine zU ?_))
      exact ⟨.tup [.arr 522 (algV (mok h 1 (fun _ => s) ∧ isTw h s) h.p h.n h.e (upto (tcm h.p h.m h.c s) (64 * h.N))), i64 (sc5 (mok h 1 (fun _ => s)) (isTw h s))], H, conc_tup2 (conc_arr (fun q hq => by rw [algV_false (fun q => h4 q.2)]; first | exact algZ q hq | (simp only [Nat.zero_add]; exact algZ q hq))) (by rw [sc5_5 h3 h4]), by exact zD, rfl, rfl⟩
  · rw [cd_false h3]
    (repeat first|refine zG ?_|(refine LS.nilO ?_;intro nq hnq hltq;try refine zU ?_)|(refine MS.new ?_;intro bq hbq hbqf;try refine zU ?_)|(refine MS.nil ?_;intro nq hnq hltq;have hlq:=hltq _ _ (Hp.get_eq _ _ _);clear hltq;try refine zU ?_)|(refine LS.nilQ ?_;try with_reducible intro nq hnq;try refine zU ?_))
    refine RS.call rfl ((impl_unlessB true 5 _ _).mono ?_)
    rintro r H' n4 hn4 ⟨rfl, rfl⟩
    simp only [↓reduceIte]
    (repeat first|refine zG ?_|(refine LS.nilO ?_;intro nq hnq hltq;try refine zU ?_)|(refine MS.new ?_;intro bq hbq hbqf;try refine zU ?_)|(refine MS.nil ?_;intro nq hnq hltq;have hlq:=hltq _ _ (Hp.get_eq _ _ _);clear hltq;try refine zU ?_)|(refine LS.nilQ ?_;try with_reducible intro nq hnq;try refine zU ?_))
    refine RS.call rfl ((impl_first2 n4 2 1 0 _ _ _ (by exact zH) rfl rfl rfl).mono ?_)
    rintro r H' n5 hn5 ⟨rfl, rfl⟩
    rw [if_pos (by decide)]
    (repeat first|refine zG ?_|(refine LS.nilO ?_;intro nq hnq hltq;try refine zU ?_)|(refine MS.new ?_;intro bq hbq hbqf;try refine zU ?_)|(refine MS.nil ?_;intro nq hnq hltq;have hlq:=hltq _ _ (Hp.get_eq _ _ _);clear hltq;try refine zU ?_)|(refine LS.nilQ ?_;try with_reducible intro nq hnq;try refine zU ?_))
    exact ⟨.tup [.arr 522 (algV (mok h 1 (fun _ => s) ∧ isTw h s) h.p h.n h.e (upto (tcm h.p h.m h.c s) (64 * h.N))), i64 (sc5 (mok h 1 (fun _ => s)) (isTw h s))], H, conc_tup2 (conc_arr (fun q hq => by rw [algV_false (fun q => h3 q.1)]; first | exact algZ q hq | (simp only [Nat.zero_add]; exact algZ q hq))) (by rw [sc5_1 h3]), by exact zD, rfl, rfl⟩
/-- spec.TwistedCoalgebra -/
def ir17 : Cd := (.seq (.reg [⟨some 2,none,.box 35 (.t 0)⟩,⟨some 3,none,.box 29 (.t 1)⟩,⟨some 4,none,.new 46 [(2,(.int .i64 0)),(520,(.int .u8 0))]⟩,⟨some 5,none,.mov (.c (.int .i64 0))⟩]) (.seq (.seq (.reg [⟨some 9,none,.ld (some 1106) (.t 2)⟩,⟨some 10,none,.ld (some 64) (.t 3)⟩,⟨some 11,none,.bsl 29 1 64 [(64,(.int .u8 0))] [(0,64,(.t 10))]⟩,⟨some 12,none,.call 35 [(.t 9),(.t 11)]⟩,⟨some 6,none,.mov (.t 12)⟩]) (.seq (.reg [⟨some 13,none,.mov (.t 6)⟩,⟨some 14,none,.bin .neq (.t 13) (.c (.int .i64 0))⟩]) (.cond (.t 14) (.seq (.reg [⟨some 15,none,.build 522 [(2,(.int .i64 0)),(520,(.int .u8 0))] []⟩,⟨some 16,none,.mov (.t 6)⟩,⟨none,none,.st 522 (.t 4) (.t 15)⟩,⟨some 5,none,.mov (.t 16)⟩]) .ret) .skip))) (.seq (.seq (.reg [⟨some 17,none,.ld (some 1106) (.t 2)⟩,⟨some 18,none,.ld (some 64) (.t 3)⟩,⟨some 19,none,.call 36 [(.t 17),(.t 18)]⟩,⟨some 20,none,.un .not (.t 19)⟩]) (.cond (.t 20) (.seq (.reg [⟨some 21,none,.build 522 [(2,(.int .i64 0)),(520,(.int .u8 0))] []⟩,⟨none,none,.st 522 (.t 4) (.t 21)⟩,⟨some 5,none,.mov (.c (.int .i64 5))⟩]) .ret) .skip)) (.seq (.reg [⟨some 22,none,.fa 0 (.t 2)⟩,⟨some 23,none,.ld none (.t 22)⟩,⟨some 24,none,.fa 1 (.t 2)⟩,⟨some 25,none,.ld none (.t 24)⟩,⟨some 26,none,.fa 522 (.t 2)⟩,⟨some 27,none,.ld (some 8) (.t 26)⟩,⟨some 28,none,.build 522 [(2,(.int .i64 0)),(520,(.int .u8 0))] [(0,1,(.t 23)),(1,1,(.t 25)),(2,8,(.t 27))]⟩,⟨some 7,none,.new 46 [(2,(.int .i64 0)),(520,(.int .u8 0))]⟩,⟨none,none,.st 522 (.t 7) (.t 28)⟩]) (.seq (.seq (.reg [⟨some 8,none,.mov (.c (.int .i64 0))⟩]) (.block 0 (.loop (.seq (.seq (.reg [⟨some 29,none,.mov (.t 8)⟩,⟨some 30,none,.fa 1 (.t 2)⟩,⟨some 31,none,.ld none (.t 30)⟩,⟨some 32,none,.bin .lss (.t 29) (.t 31)⟩]) (.cond (.t 32) .skip (.exit 0))) (.seq (.block 1 (.drwo true [11] [0,1,3,4,5,6,7,9,2,8,10,11] [⟨some 35,none,.mov (.t 8)⟩,⟨some 36,none,.ld (some 1106) (.t 2)⟩,⟨some 37,none,.call 28 [(.t 36)]⟩,⟨some 38,none,.ld (some 64) (.t 3)⟩,⟨some 39,none,.mov (.t 8)⟩,⟨some 40,none,.fa 530 (.t 2)⟩,⟨some 41,none,.ia 8 64 (.t 40) (.t 39)⟩,⟨some 42,none,.ld (some 64) (.t 41)⟩,⟨some 43,none,.call 37 [(.t 37),(.t 38),(.t 42)]⟩,⟨some 44,none,.fa 10 (.t 7)⟩,⟨some 45,none,.ia 8 64 (.t 44) (.t 35)⟩,⟨none,none,.st 64 (.t 45) (.t 43)⟩])) (.reg [⟨some 33,none,.mov (.t 8)⟩,⟨some 34,none,.bin .add (.t 33) (.c (.int .i64 1))⟩,⟨some 8,none,.mov (.t 34)⟩])))))) (.seq (.reg [⟨some 46,none,.ld (some 522) (.t 7)⟩,⟨none,none,.st 522 (.t 4) (.t 46)⟩,⟨some 5,none,.mov (.c (.int .i64 0))⟩]) .ret))))))
set_option maxRecDepth 100000 in
theorem tr17 : trFn Tryz.prog Tryz.f17 = some (47, ir17, [.cell (some 522) 4, .tmp 5]) := by kernel_rfl
theorem spec_TwistedCoalgebra (h : HT) (s : Nat → Int) (K : Nat → SV) (H : Hp) (n : Nat) (hK : h.At K) (hB : h.By) (hs : isBy 64 s) :
    FnS Tryz.prog 17 [.arr 1106 K, .arr 64 (bys s)] H n (fun r H' _ => r = .tup [.arr 522 (algV (mok h 1 (fun _ => s) ∧ isTw h s) h.p h.n h.e (upto (tcm h.p h.m h.c s) (64 * h.N))), i64 (sc5 (mok h 1 (fun _ => s)) (isTw h s))] ∧ H' = H) := by
  have hk0 := hK.p
  have hk1 := hK.n
  have hk2 := hK.e
  refine FnS.of_body Tryz.func17 tr17 (by simp) (fun hf => ?_)
  dsimp only [argEnv]
  unfold ir17
  (repeat first|refine zG ?_|(refine LS.nilO ?_;intro nq hnq hltq;try refine zU ?_)|(refine MS.new ?_;intro bq hbq hbqf;try refine zU ?_)|(refine MS.nil ?_;intro nq hnq hltq;have hlq:=hltq _ _ (Hp.get_eq _ _ _);clear hltq;try refine zU ?_)|(refine LS.nilQ ?_;try with_reducible intro nq hnq;try refine zU ?_))
  refine RS.call rfl ((FnS.args (concs_cons (conc_arr (fun q hq => rfl)) rfl) (spec_l10Code h (.slc (n + 3) 0 1 1) 1 (by omega) (fun _ => s) K _ _ hK hB ⟨n + 3, 1, _, rfl, by exact zH, (by simp), fun i hi q hq => by (obtain rfl : i = 0 := by omega); (try dsimp only); rw [show 0 + 0 * 64 + q = 0 + q by omega]; exact (splice_at _ _ 0 64 q hq).trans (by first | rfl | (simp only [Nat.zero_add]; rfl))⟩ (fun _ _ => hs))).mono ?_)
  rintro r H' n2 hn2 ⟨rfl, rfl⟩
  by_cases h3 : mok h 1 (fun _ => s)
  · rw [cd_true h3]
    obtain ⟨a, hS⟩ := isHopf.hs h3.1
    have hN := hS.N
    subst hN
    have hp := hS.hp
    have ha := hS.ha
    have hz0 := h3.lz hS (show 0 < 1 by omega)
    rw [hS.hn] at hk1
    (repeat first|refine zG ?_|(refine LS.nilO ?_;intro nq hnq hltq;try refine zU ?_)|(refine MS.new ?_;intro bq hbq hbqf;try refine zU ?_)|(refine MS.nil ?_;intro nq hnq hltq;have hlq:=hltq _ _ (Hp.get_eq _ _ _);clear hltq;try refine zU ?_)|(refine LS.nilQ ?_;try with_reducible intro nq hnq;try refine zU ?_))
    refine RS.call rfl ((FnS.args (concs_cons (conc_arr (fun q hq => rfl)) rfl) (spec_l10Twist h h.N s K _ _ hS hK hB hs hz0)).mono ?_)
    rintro r H' n3 hn3 ⟨rfl, rfl⟩
    by_cases h4 : isTw h s
    · rw [tb_true h4]
      (repeat first|refine zG ?_|(refine LS.nilO ?_;intro nq hnq hltq;try refine zU ?_)|(refine MS.new ?_;intro bq hbq hbqf;try refine zU ?_)|(refine MS.nil ?_;intro nq hnq hltq;have hlq:=hltq _ _ (Hp.get_eq _ _ _);clear hltq;try refine zU ?_)|(refine LS.nilQ ?_;try with_reducible intro nq hnq;try refine zU ?_))
      refine CS.iter h.N (fun i => [(8, i64 i), (2, ptr n 0), (3, ptr (n + 1) 0), (4, ptr (n + 2) 0), (7, ptr n3 0)]) (fun i => (n3, ⟨522, algC h.p h.N h.e (upto (tcm h.p h.m h.c s) (64 * i)), 46⟩) :: (n + 2, ⟨522, Zs.c [(2, .int .i64 0), (520, .int .u8 0)], 46⟩) :: (n + 1, ⟨64, bys s, 29⟩) :: (n, ⟨1106, K, 35⟩) :: H) (fun _ => True) (by (repeat first | exact trivial | refine And.intro rfl ?_))
        (Drops.keepc rfl rfl (fun q hq => by
          show splice (put1 (put1 (Zs.c [(2, .int .i64 0), (520, .int .u8 0)]) 0 (.int .i64 h.p)) 1 (.int .i64 h.N)) 2 8 (bys h.e) q = _
          have hz : Zs.c [(2, SV.int IntKind.i64 0), (520, SV.int IntKind.u8 0)] q = if q < 2 then .int .i64 0 else .int .u8 0 := rfl
          rw [upto_zero]
          unfold splice put1 bys
          rw [hz]
          show _ = algC h.p h.N h.e (fun _ => 0) q
          unfold algC
          (repeat' split) <;> first | rfl | omega) (by first | exact Drops.refl _ _ | exact zD)) trivial ?_
      intro i m1 hi hm1 _
      (repeat first|refine zG ?_|(refine LS.nilO ?_;intro nq hnq hltq;try refine zU ?_)|(refine MS.new ?_;intro bq hbq hbqf;try refine zU ?_)|(refine MS.nil ?_;intro nq hnq hltq;have hlq:=hltq _ _ (Hp.get_eq _ _ _);clear hltq;try refine zU ?_)|(refine LS.nilQ ?_;try with_reducible intro nq hnq;try refine zU ?_))
      refine zI ?_ ?_<;>intro h5
      · (repeat first|refine zG ?_|(refine LS.nilO ?_;intro nq hnq hltq;try refine zU ?_)|(refine MS.new ?_;intro bq hbq hbqf;try refine zU ?_)|(refine MS.nil ?_;intro nq hnq hltq;have hlq:=hltq _ _ (Hp.get_eq _ _ _);clear hltq;try refine zU ?_)|(refine LS.nilQ ?_;try with_reducible intro nq hnq;try refine zU ?_))
        have hk7 := hK.c
        refine CS.tailLo _ (List.Mem.head _) ?_; dsimp only [List.take, List.drop]
        (repeat first|refine zG ?_|(refine LS.nilO ?_;intro nq hnq hltq;try refine zU ?_)|(refine MS.new ?_;intro bq hbq hbqf;try refine zU ?_)|(refine MS.nil ?_;intro nq hnq hltq;have hlq:=hltq _ _ (Hp.get_eq _ _ _);clear hltq;try refine zU ?_)|(refine LS.nilQ ?_;try with_reducible intro nq hnq;try refine zU ?_))
        refine LS.callQ (.arr 522 K) rfl (fun n' hn' => FnS.args (concs_cons (conc_arr (fun q hq => rfl)) rfl) (spec_l03Algebra K h _ _ hK)) ?_
        (repeat first|refine zG ?_|(refine LS.nilO ?_;intro nq hnq hltq;try refine zU ?_)|(refine MS.new ?_;intro bq hbq hbqf;try refine zU ?_)|(refine MS.nil ?_;intro nq hnq hltq;have hlq:=hltq _ _ (Hp.get_eq _ _ _);clear hltq;try refine zU ?_)|(refine LS.nilQ ?_;try with_reducible intro nq hnq;try refine zU ?_))
        refine LS.callQ (.arr 64 (bys (ten h.p h.m s (fun x => h.c (64 * i + x))))) rfl (fun n' hn' => spec_l04Pairs h h.N s (fun x => h.c (64 * i + x)) K _ _ hS hK hB hs (fun x hx => hB.c _ (by omega)) hz0 (fun x y hx hy hn => by (try dsimp only); rw [show 64 * i + (8 * x + y) = 64 * i + 8 * x + y by omega]; exact hS.cm i x y (by omega) hx hy (by omega))) ?_
        (repeat first|refine zG ?_|(refine LS.nilO ?_;intro nq hnq hltq;try refine zU ?_)|(refine MS.new ?_;intro bq hbq hbqf;try refine zU ?_)|(refine MS.nil ?_;intro nq hnq hltq;have hlq:=hltq _ _ (Hp.get_eq _ _ _);clear hltq;try refine zU ?_)|(refine LS.nilQ ?_;try with_reducible intro nq hnq;try refine zU ?_))
        refine ⟨by omega, by (repeat first | exact trivial | refine And.intro rfl ?_), Drops.keepc rfl rfl (fun q hq => algC_tab (fun q => upto_step (fun y hy => tcm_at _ _ _ _ _ _ hy) q) q) (Drops.refl _ _), trivial⟩
      · obtain rfl : i = h.N := by omega
        (repeat first|refine zG ?_|(refine LS.nilO ?_;intro nq hnq hltq;try refine zU ?_)|(refine MS.new ?_;intro bq hbq hbqf;try refine zU ?_)|(refine MS.nil ?_;intro nq hnq hltq;have hlq:=hltq _ _ (Hp.get_eq _ _ _);clear hltq;try refine zU ?_)|(refine LS.nilQ ?_;try with_reducible intro nq hnq;try refine zU ?_))
        exact ⟨.tup [.arr 522 (algV (mok h 1 (fun _ => s) ∧ isTw h s) h.p h.n h.e (upto (tcm h.p h.m h.c s) (64 * h.N))), i64 (sc5 (mok h 1 (fun _ => s)) (isTw h s))], H, conc_tup2 (conc_arr (fun q hq => by rw [algV_true ⟨h3, h4⟩, hS.hn]; first | rfl | (simp only [Nat.zero_add]; done) | (simp only [Nat.zero_add]; rfl))) (by rw [sc5_0 h3 h4]), by exact zD, rfl, rfl⟩
    · rw [tb_false h4]
      (repeat first|refine zG ?_|(refine LS.nilO ?_;intro nq hnq hltq;try refine zU ?_)|(refine MS.new ?_;intro bq hbq hbqf;try refine zU ?_)|(refine MS.nil ?_;intro nq hnq hltq;have hlq:=hltq _ _ (Hp.get_eq _ _ _);clear hltq;try refine zU ?_)|(refine LS.nilQ ?_;try with_reducible intro nq hnq;try refine zU ?_))
      exact ⟨.tup [.arr 522 (algV (mok h 1 (fun _ => s) ∧ isTw h s) h.p h.n h.e (upto (tcm h.p h.m h.c s) (64 * h.N))), i64 (sc5 (mok h 1 (fun _ => s)) (isTw h s))], H, conc_tup2 (conc_arr (fun q hq => by rw [algV_false (fun q => h4 q.2)]; first | exact algZ q hq | (simp only [Nat.zero_add]; exact algZ q hq))) (by rw [sc5_5 h3 h4]), by exact zD, rfl, rfl⟩
  · rw [cd_false h3]
    (repeat first|refine zG ?_|(refine LS.nilO ?_;intro nq hnq hltq;try refine zU ?_)|(refine MS.new ?_;intro bq hbq hbqf;try refine zU ?_)|(refine MS.nil ?_;intro nq hnq hltq;have hlq:=hltq _ _ (Hp.get_eq _ _ _);clear hltq;try refine zU ?_)|(refine LS.nilQ ?_;try with_reducible intro nq hnq;try refine zU ?_))
    exact ⟨.tup [.arr 522 (algV (mok h 1 (fun _ => s) ∧ isTw h s) h.p h.n h.e (upto (tcm h.p h.m h.c s) (64 * h.N))), i64 (sc5 (mok h 1 (fun _ => s)) (isTw h s))], H, conc_tup2 (conc_arr (fun q hq => by rw [algV_false (fun q => h3 q.1)]; first | exact algZ q hq | (simp only [Nat.zero_add]; exact algZ q hq))) (by rw [sc5_1 h3]), by exact zD, rfl, rfl⟩
/-- laws.FnExactTwistedCoalgebra -/
def ir6 : Cd := (.seq (.reg [⟨some 2,none,.box 26 (.t 0)⟩,⟨some 3,none,.box 23 (.t 1)⟩,⟨some 4,none,.mov (.c (.bool false))⟩]) (.seq (.mix [⟨some 10,none,.ld (some 1106) (.t 2)⟩,⟨some 11,none,.call 8 [(.t 10)]⟩,⟨some 12,none,.ld (some 64) (.t 3)⟩,⟨some 13,none,.call 9 [(.t 12)]⟩,⟨some 14,none,.call 17 [(.t 11),(.t 13)]⟩,⟨some 9,none,.mov (.t 14)⟩,⟨some 15,none,.ex (.t 9) 0⟩,⟨some 16,none,.ex (.t 9) 1⟩] [⟨some 5,none,.new 46 [(2,(.int .i64 0)),(520,(.int .u8 0))]⟩,⟨none,none,.st 522 (.t 5) (.t 15)⟩,⟨some 6,none,.mov (.t 16)⟩]) (.seq (.mix [⟨some 18,none,.ld (some 1106) (.t 2)⟩,⟨some 19,none,.call 8 [(.t 18)]⟩,⟨some 20,none,.ld (some 64) (.t 3)⟩,⟨some 21,none,.call 9 [(.t 20)]⟩,⟨some 22,none,.call 18 [(.t 19),(.t 21)]⟩,⟨some 17,none,.mov (.t 22)⟩,⟨some 23,none,.ex (.t 17) 0⟩,⟨some 24,none,.ex (.t 17) 1⟩] [⟨some 7,none,.new 46 [(2,(.int .i64 0)),(520,(.int .u8 0))]⟩,⟨none,none,.st 522 (.t 7) (.t 23)⟩,⟨some 8,none,.mov (.t 24)⟩]) (.seq (.seq (.reg [⟨some 25,none,.ld (some 522) (.t 7)⟩,⟨some 26,none,.ld (some 522) (.t 5)⟩,⟨some 27,none,.call 19 [(.t 25),(.t 26)]⟩,⟨some 28,none,.un .not (.t 27)⟩,⟨some 29,none,.mov (.t 28)⟩,⟨some 30,(some (29,false)),.mov (.t 8)⟩,⟨some 31,(some (29,false)),.mov (.t 6)⟩,⟨some 32,(some (29,false)),.bin .neq (.t 30) (.t 31)⟩,⟨some 33,none,.pick (.t 29) (.c (.bool true)) (.t 32)⟩]) (.cond (.t 33) (.seq (.reg [⟨some 4,none,.mov (.c (.bool false))⟩]) .ret) .skip)) (.seq (.reg [⟨some 4,none,.mov (.c (.bool true))⟩]) .ret)))))
set_option maxRecDepth 100000 in
theorem tr6 : trFn Tryz.prog Tryz.f6 = some (34, ir6, [.tmp 4]) := by kernel_rfl
theorem law_FnExactTwistedCoalgebra (z : Nat → Int) (w : ∀ i, (Lit.int (hopfKs.getD i .u8) (z i)).wf = true) (z1 : Nat → Int) (w1 : ∀ i, (Lit.int ((List.replicate 64 .u8 : List IntKind).getD i .u8) (z1 i)).wf = true) (n : Nat) :
    FnS Tryz.prog 6 [.arr 1106 fun i => .int (hopfKs.getD i .u8) (z i), .arr 64 fun i => .int ((List.replicate 64 .u8 : List IntKind).getD i .u8) (z1 i)] [] n (fun r H' _ => r = bl true ∧ H' = []) := by
  have hK := hOf_at z
  have hB := hOf_by w
  generalize hOf z = h at hK hB
  generalize (fun i => SV.int (hopfKs.getD i .u8) (z i)) = K at hK ⊢
  simp only [flat_bys]
  refine FnS.of_body Tryz.func6 tr6 (by simp) (fun hf => ?_)
  dsimp only [argEnv]
  unfold ir6
  (repeat first|refine zG ?_|(refine LS.nilO ?_;intro nq hnq hltq;try refine zU ?_)|(refine MS.new ?_;intro bq hbq hbqf;try refine zU ?_)|(refine MS.nil ?_;intro nq hnq hltq;have hlq:=hltq _ _ (Hp.get_eq _ _ _);clear hltq;try refine zU ?_)|(refine LS.nilQ ?_;try with_reducible intro nq hnq;try refine zU ?_))
  refine LS.callQ (.arr 1106 K) rfl (fun n' hn' => laws_toHopf h K _ _ hK) ?_
  (repeat first|refine zG ?_|(refine LS.nilO ?_;intro nq hnq hltq;try refine zU ?_)|(refine MS.new ?_;intro bq hbq hbqf;try refine zU ?_)|(refine MS.nil ?_;intro nq hnq hltq;have hlq:=hltq _ _ (Hp.get_eq _ _ _);clear hltq;try refine zU ?_)|(refine LS.nilQ ?_;try with_reducible intro nq hnq;try refine zU ?_))
  refine LS.callQ (.arr 64 (bys z1)) rfl (fun n' hn' => laws_toLinear z1 _ _) ?_
  (repeat first|refine zG ?_|(refine LS.nilO ?_;intro nq hnq hltq;try refine zU ?_)|(refine MS.new ?_;intro bq hbq hbqf;try refine zU ?_)|(refine MS.nil ?_;intro nq hnq hltq;have hlq:=hltq _ _ (Hp.get_eq _ _ _);clear hltq;try refine zU ?_)|(refine LS.nilQ ?_;try with_reducible intro nq hnq;try refine zU ?_))
  refine LS.callQ (.tup [.arr 522 (algV (mok h 1 (fun _ => z1) ∧ isTw h z1) h.p h.n h.e (upto (tcm h.p h.m h.c z1) (64 * h.N))), i64 (sc5 (mok h 1 (fun _ => z1)) (isTw h z1))]) rfl (fun n' hn' => spec_TwistedCoalgebra h z1 K _ _ hK hB (flat_by w1)) ?_
  (repeat first|refine zG ?_|(refine LS.nilO ?_;intro nq hnq hltq;try refine zU ?_)|(refine MS.new ?_;intro bq hbq hbqf;try refine zU ?_)|(refine MS.nil ?_;intro nq hnq hltq;have hlq:=hltq _ _ (Hp.get_eq _ _ _);clear hltq;try refine zU ?_)|(refine LS.nilQ ?_;try with_reducible intro nq hnq;try refine zU ?_))
  refine LS.callQ (.arr 1106 K) rfl (fun n' hn' => laws_toHopf h K _ _ hK) ?_
  (repeat first|refine zG ?_|(refine LS.nilO ?_;intro nq hnq hltq;try refine zU ?_)|(refine MS.new ?_;intro bq hbq hbqf;try refine zU ?_)|(refine MS.nil ?_;intro nq hnq hltq;have hlq:=hltq _ _ (Hp.get_eq _ _ _);clear hltq;try refine zU ?_)|(refine LS.nilQ ?_;try with_reducible intro nq hnq;try refine zU ?_))
  refine LS.callQ (.arr 64 (bys z1)) rfl (fun n' hn' => laws_toLinear z1 _ _) ?_
  (repeat first|refine zG ?_|(refine LS.nilO ?_;intro nq hnq hltq;try refine zU ?_)|(refine MS.new ?_;intro bq hbq hbqf;try refine zU ?_)|(refine MS.nil ?_;intro nq hnq hltq;have hlq:=hltq _ _ (Hp.get_eq _ _ _);clear hltq;try refine zU ?_)|(refine LS.nilQ ?_;try with_reducible intro nq hnq;try refine zU ?_))
  refine LS.callQ (.tup [.arr 522 (algV (mok h 1 (fun _ => z1) ∧ isTw h z1) h.p h.n h.e (upto (tcm h.p h.m h.c z1) (64 * h.N))), i64 (sc5 (mok h 1 (fun _ => z1)) (isTw h z1))]) rfl (fun n' hn' => impl_TwistedCoalgebra h z1 K _ _ hK hB (flat_by w1)) ?_
  (repeat first|refine zG ?_|(refine LS.nilO ?_;intro nq hnq hltq;try refine zU ?_)|(refine MS.new ?_;intro bq hbq hbqf;try refine zU ?_)|(refine MS.nil ?_;intro nq hnq hltq;have hlq:=hltq _ _ (Hp.get_eq _ _ _);clear hltq;try refine zU ?_)|(refine LS.nilQ ?_;try with_reducible intro nq hnq;try refine zU ?_))
  obtain ⟨p1, n1, u1, m1, e1⟩ := algV_is (mok h 1 (fun _ => z1) ∧ isTw h z1) h.p h.n h.e (upto (tcm h.p h.m h.c z1) (64 * h.N))
  rw [e1]
  (repeat first|refine zG ?_|(refine LS.nilO ?_;intro nq hnq hltq;try refine zU ?_)|(refine MS.new ?_;intro bq hbq hbqf;try refine zU ?_)|(refine MS.nil ?_;intro nq hnq hltq;have hlq:=hltq _ _ (Hp.get_eq _ _ _);clear hltq;try refine zU ?_)|(refine LS.nilQ ?_;try with_reducible intro nq hnq;try refine zU ?_))
  refine RS.call rfl ((laws_eqCoalgebra p1 n1 u1 m1 _ _).mono ?_)
  rintro r H' n6 hn6 ⟨rfl, rfl⟩
  (repeat first|refine zG ?_|(refine LS.nilO ?_;intro nq hnq hltq;try refine zU ?_)|(refine MS.new ?_;intro bq hbq hbqf;try refine zU ?_)|(refine MS.nil ?_;intro nq hnq hltq;have hlq:=hltq _ _ (Hp.get_eq _ _ _);clear hltq;try refine zU ?_)|(refine LS.nilQ ?_;try with_reducible intro nq hnq;try refine zU ?_))
  simp only [bne_self_eq_false]
  (repeat first|refine zG ?_|(refine LS.nilO ?_;intro nq hnq hltq;try refine zU ?_)|(refine MS.new ?_;intro bq hbq hbqf;try refine zU ?_)|(refine MS.nil ?_;intro nq hnq hltq;have hlq:=hltq _ _ (Hp.get_eq _ _ _);clear hltq;try refine zU ?_)|(refine LS.nilQ ?_;try with_reducible intro nq hnq;try refine zU ?_))
  exact ⟨_, [], rfl, by exact zD, rfl, rfl⟩
end Go.Proofs.YtbknndbfbebkdabGreatR
