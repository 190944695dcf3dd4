/- Contracts of the program's functions. -/
import Derived.Test.YtbknndbfbebkdabGreatRR
import Derived.Test.YtbknndbfbebkdabGreatRLW
import Derived.Test.YtbknndbfbebkdabGreatRF6c
namespace Go.Proofs.YtbknndbfbebkdabGreatR
open Go.V
set_option linter.unusedSimpArgs false
set_option linter.unusedVariables false
set_option maxHeartbeats 4000000
theorem axF_ok (h : HT) (a b nb : Nat) (K Kb : Blk) (H : Hp) (hS : HS h a) (hb : H.get b = some K) (hsz : K.size = 1106) (hK : h.At K.c) (hB : h.By)
    (gb : H.get nb = some Kb) (sb : Kb.size = 1) (cb : Kb.c 0 = .ptr b 0) (k : Nat) (hk : k < 7) :
    ∃ f pre post, axF b nb k = .fn f pre post ∧ ∀ n, FnS Tryz.prog f (pre.map .s ++ [] ++ post.map .s) H n (fun r H' _ => r = bl (tb (ax h k)) ∧ H' = H) := by
  have : k = 0 ∨ k = 1 ∨ k = 2 ∨ k = 3 ∨ k = 4 ∨ k = 5 ∨ k = 6 := by omega
  rcases this with rfl | rfl | rfl | rfl | rfl | rfl | rfl
  · exact ⟨_, _, _, rfl, fun n => Hopf_fails_1 h b nb K Kb H n hb hsz hK hB gb sb cb⟩
  · exact ⟨_, _, _, rfl, fun n => Hopf_fails_2 h b nb K Kb H n hb hsz hK hB gb sb cb⟩
  · exact ⟨_, _, _, rfl, fun n => Hopf_axiom3 h a b K H n hS hb hsz hK hB⟩
  · exact ⟨_, _, _, rfl, fun n => Hopf_axiom4 h a b K H n hS hb hsz hK hB⟩
  · exact ⟨_, _, _, rfl, fun n => Hopf_axiom5 h a b K H n hS hb hsz hK hB⟩
  · exact ⟨_, _, _, rfl, fun n => Hopf_fails_3 h a b nb K Kb H n hS hb hsz hK hB gb sb cb⟩
  · exact ⟨_, _, _, rfl, fun n => Hopf_fails_4 h a b nb K Kb H n hS hb hsz hK hB gb sb cb⟩
/-- (*impl.Hopf).fails -/
def ir87 : Cd := (.seq (.reg [⟨some 2,none,.box 55 (.t 0)⟩,⟨some 4,none,.mov (.c (.int .i64 0))⟩]) (.seq (.reg [⟨some 8,none,.mkf 104 [] [(.t 2)]⟩,⟨some 9,none,.mkf 106 [] [(.t 2)]⟩,⟨some 10,none,.ld none (.t 2)⟩,⟨some 11,none,.mkf 108 [(.t 10)] []⟩,⟨some 12,none,.ld none (.t 2)⟩,⟨some 13,none,.mkf 109 [(.t 12)] []⟩,⟨some 14,none,.ld none (.t 2)⟩,⟨some 15,none,.mkf 110 [(.t 14)] []⟩,⟨some 16,none,.mkf 111 [] [(.t 2)]⟩,⟨some 17,none,.mkf 113 [] [(.t 2)]⟩,⟨some 18,none,.bsl 114 7 1 [(1,.nilfn)] [(0,1,(.t 8)),(1,1,(.t 9)),(2,1,(.t 11)),(3,1,(.t 13)),(4,1,(.t 15)),(5,1,(.t 16)),(6,1,(.t 17))]⟩,⟨some 5,none,.mov (.t 18)⟩]) (.seq (.seq (.reg [⟨some 19,none,.mov (.t 5)⟩,⟨some 20,none,.mov (.t 1)⟩,⟨some 21,none,.sls 1 (.t 19) none (some (.t 20)) none⟩,⟨some 22,none,.len (.t 21)⟩,⟨some 23,none,.mov (.c (.int .i64 0))⟩]) (.block 0 (.loop (.seq (.reg [⟨some 24,none,.bin .lss (.t 23) (.t 22)⟩]) (.seq (.cond (.t 24) .skip (.exit 0)) (.seq (.block 1 (.seq (.reg [⟨some 25,none,.mov (.t 23)⟩,⟨some 26,none,.isl 1 (.t 21) (.t 23)⟩,⟨some 27,none,.ld none (.t 26)⟩,⟨some 6,none,.mov (.t 25)⟩,⟨some 7,none,.mov (.t 27)⟩]) (.seq (.reg [⟨some 28,none,.mov (.t 7)⟩,⟨some 29,none,.callv (.t 28) []⟩,⟨some 30,none,.un .not (.t 29)⟩]) (.cond (.t 30) (.seq (.reg [⟨some 31,none,.mov (.t 6)⟩,⟨some 32,none,.bin .add (.t 31) (.c (.int .i64 1))⟩,⟨some 4,none,.mov (.t 32)⟩]) .ret) .skip)))) (.reg [⟨some 33,none,.bin .add (.t 23) (.c (.int .i64 1))⟩,⟨some 23,none,.mov (.t 33)⟩]))))))) (.seq (.reg [⟨some 4,none,.mov (.c (.int .i64 0))⟩]) .ret))))
set_option maxRecDepth 100000 in
theorem tr87 : trFn Tryz.prog Tryz.f87 = some (34, ir87, [.tmp 4]) := by kernel_rfl
theorem Hopf_fails (h : HT) (a b up : Nat) (K : Blk) (H : Hp) (n : Nat) (hup : up ≤ 7) (hS : HS h a) (hb : H.get b = some K) (hsz : K.size = 1106) (hK : h.At K.c) (hB : h.By) :
    FnS Tryz.prog 87 [ptr b 0, i64 up] H n (fun r H' _ => r = i64 (firstNot (ax h) 0 up) ∧ H' = H) := by
  refine FnS.of_body Tryz.func87 tr87 (by simp) (fun hf => ?_)
  dsimp only [argEnv]
  unfold ir87
  have hbn := getlt hf hb
  (repeat first|refine zG ?_|(refine LS.nilO ?_;intro nq hnq hltq;try refine zU ?_)|(refine MS.new ?_;intro bq hbq hbqf;try refine zU ?_)|(refine MS.nil ?_;intro nq hnq hltq;have hlq:=hltq _ _ (Hp.get_eq _ _ _);clear hltq;try refine zU ?_)|(refine LS.nilQ ?_;try with_reducible intro nq hnq;try refine zU ?_))
  refine RS.slsTo (by exact rfl) (by exact rfl) rfl (by omega) ?_
  (repeat first|refine zG ?_|(refine LS.nilO ?_;intro nq hnq hltq;try refine zU ?_)|(refine MS.new ?_;intro bq hbq hbqf;try refine zU ?_)|(refine MS.nil ?_;intro nq hnq hltq;have hlq:=hltq _ _ (Hp.get_eq _ _ _);clear hltq;try refine zU ?_)|(refine LS.nilQ ?_;try with_reducible intro nq hnq;try refine zU ?_))
  refine CS.iter up (fun k => [(23, i64 k), (22, i64 up), (21, .s (.slc (n + 1) 0 up 7))]) (fun _ => (n + 1, ⟨7, axF b n, 114⟩) :: (n, ⟨1, fun _ => .ptr b 0, 55⟩) :: H)
    (fun k => firstNot (ax h) 0 up = firstNot (ax h) k (up - k)) (by (repeat first | exact trivial | refine And.intro rfl ?_)) (Drops.keepc rfl rfl (fun q hq => ?_) (Drops.refl _ _)) rfl ?_
  · have hq7 : q < 7 := hq
    have : q = 0 ∨ q = 1 ∨ q = 2 ∨ q = 3 ∨ q = 4 ∨ q = 5 ∨ q = 6 := by omega
    rcases this with rfl | rfl | rfl | rfl | rfl | rfl | rfl <;> rfl
  intro k n1 hk hn hJ
  (repeat first|refine zG ?_|(refine LS.nilO ?_;intro nq hnq hltq;try refine zU ?_)|(refine MS.new ?_;intro bq hbq hbqf;try refine zU ?_)|(refine MS.nil ?_;intro nq hnq hltq;have hlq:=hltq _ _ (Hp.get_eq _ _ _);clear hltq;try refine zU ?_)|(refine LS.nilQ ?_;try with_reducible intro nq hnq;try refine zU ?_))
  refine zI ?_ ?_<;>intro h2
  · obtain ⟨f, pre, post, e, hF⟩ := axF_ok h a b n K ⟨1, fun _ => .ptr b 0, 55⟩ ((n + 1, ⟨7, axF b n, 114⟩) :: (n, ⟨1, fun _ => .ptr b 0, 55⟩) :: H) hS (by exact zH) hsz hK hB (by exact zH) rfl rfl k (by omega)
    have e' : (⟨7, axF b n, 114⟩ : Blk).c (0 + k * 1) = .fn f pre post := by rw [Nat.zero_add, Nat.mul_one]; exact e
    (repeat first|refine zG ?_|(refine LS.nilO ?_;intro nq hnq hltq;try refine zU ?_)|(refine MS.new ?_;intro bq hbq hbqf;try refine zU ?_)|(refine MS.nil ?_;intro nq hnq hltq;have hlq:=hltq _ _ (Hp.get_eq _ _ _);clear hltq;try refine zU ?_)|(refine LS.nilQ ?_;try with_reducible intro nq hnq;try refine zU ?_))
    refine RS.callv (f := f) (pre := pre) (post := post) (vs := []) (by exact rfl) (by exact rfl) ?_
    refine FnS.mono (hF n1) ?_
    rintro r H' n2 hn2 ⟨rfl, rfl⟩
    (repeat first|refine zG ?_|(refine LS.nilO ?_;intro nq hnq hltq;try refine zU ?_)|(refine MS.new ?_;intro bq hbq hbqf;try refine zU ?_)|(refine MS.nil ?_;intro nq hnq hltq;have hlq:=hltq _ _ (Hp.get_eq _ _ _);clear hltq;try refine zU ?_)|(refine LS.nilQ ?_;try with_reducible intro nq hnq;try refine zU ?_))
    refine zI ?_ ?_<;>intro h3
    · (repeat first|refine zG ?_|(refine LS.nilO ?_;intro nq hnq hltq;try refine zU ?_)|(refine MS.new ?_;intro bq hbq hbqf;try refine zU ?_)|(refine MS.nil ?_;intro nq hnq hltq;have hlq:=hltq _ _ (Hp.get_eq _ _ _);clear hltq;try refine zU ?_)|(refine LS.nilQ ?_;try with_reducible intro nq hnq;try refine zU ?_))
      exact ⟨_, H, rfl, by exact zD, by rw [hJ, show up - k = (up - k - 1) + 1 by omega, firstNot_end h3], rfl⟩
    · (repeat first|refine zG ?_|(refine LS.nilO ?_;intro nq hnq hltq;try refine zU ?_)|(refine MS.new ?_;intro bq hbq hbqf;try refine zU ?_)|(refine MS.nil ?_;intro nq hnq hltq;have hlq:=hltq _ _ (Hp.get_eq _ _ _);clear hltq;try refine zU ?_)|(refine LS.nilQ ?_;try with_reducible intro nq hnq;try refine zU ?_))
      exact ⟨by omega, by (repeat first | exact trivial | refine And.intro rfl ?_), by exact zD, by rw [hJ, show up - k = (up - (k + 1)) + 1 by omega, firstNot_go h3]⟩
  · have : k = up := by omega
    subst this
    (repeat first|refine zG ?_|(refine LS.nilO ?_;intro nq hnq hltq;try refine zU ?_)|(refine MS.new ?_;intro bq hbq hbqf;try refine zU ?_)|(refine MS.nil ?_;intro nq hnq hltq;have hlq:=hltq _ _ (Hp.get_eq _ _ _);clear hltq;try refine zU ?_)|(refine LS.nilQ ?_;try with_reducible intro nq hnq;try refine zU ?_))
    exact ⟨_, H, rfl, by exact zD, by rw [hJ, Nat.sub_self]; rfl, rfl⟩
/-- impl.IsHopf -/
def ir58 : Cd := (.seq (.reg [⟨some 1,none,.box 35 (.t 0)⟩,⟨some 2,none,.mov (.c (.bool false))⟩]) (.seq (.reg [⟨some 3,none,.call 86 [(.t 1)]⟩,⟨some 4,none,.mov (.t 3)⟩,⟨some 5,(some (4,true)),.call 87 [(.t 1),(.c (.int .i64 7))]⟩,⟨some 6,(some (4,true)),.bin .eql (.t 5) (.c (.int .i64 0))⟩,⟨some 7,none,.pick (.t 4) (.t 6) (.c (.bool false))⟩,⟨some 2,none,.mov (.t 7)⟩]) .ret))
set_option maxRecDepth 100000 in
theorem tr58 : trFn Tryz.prog Tryz.f58 = some (8, ir58, [.tmp 2]) := by kernel_rfl
theorem impl_IsHopf (h : HT) (K : Nat → SV) (H : Hp) (n : Nat) (hK : h.At K) (hB : h.By) :
    FnS Tryz.prog 58 [.arr 1106 K] H n (fun r H' _ => r = bl (tb (isHopf h)) ∧ H' = H) := by
  refine FnS.of_body Tryz.func58 tr58 (by simp) (fun hf => ?_)
  dsimp only [argEnv]
  unfold ir58
  (repeat first|refine zG ?_|(refine LS.nilO ?_;intro nq hnq hltq;try refine zU ?_)|(refine MS.new ?_;intro bq hbq hbqf;try refine zU ?_)|(refine MS.nil ?_;intro nq hnq hltq;have hlq:=hltq _ _ (Hp.get_eq _ _ _);clear hltq;try refine zU ?_)|(refine LS.nilQ ?_;try with_reducible intro nq hnq;try refine zU ?_))
  refine RS.call rfl ((Hopf_isShaped h n ⟨1106, K, 35⟩ _ _ (by exact zH) rfl hK hB).mono ?_)
  rintro r H' n2 hn2 ⟨rfl, rfl⟩
  (repeat first|refine zG ?_|(refine LS.nilO ?_;intro nq hnq hltq;try refine zU ?_)|(refine MS.new ?_;intro bq hbq hbqf;try refine zU ?_)|(refine MS.nil ?_;intro nq hnq hltq;have hlq:=hltq _ _ (Hp.get_eq _ _ _);clear hltq;try refine zU ?_)|(refine LS.nilQ ?_;try with_reducible intro nq hnq;try refine zU ?_))
  refine RS.sp (t := 4) rfl (fun h1 => ?_) (fun h1 => ?_) <;> (try simp only [tb_eq, tb_eqF, decide_eq_true_eq, decide_eq_false_iff_not, beq_iff_eq, bne_iff_ne, ne_eq, Decidable.not_not, beq_eq_false_iff_ne, bne_eq_false_iff_eq, Bool.not_eq_true', Bool.not_eq_false', Bool.not_eq_eq_eq_not, Bool.not_true, Bool.not_false] at h1)
  · obtain ⟨a, hS⟩ := h1.hs
    (repeat first|refine zG ?_|(refine LS.nilO ?_;intro nq hnq hltq;try refine zU ?_)|(refine MS.new ?_;intro bq hbq hbqf;try refine zU ?_)|(refine MS.nil ?_;intro nq hnq hltq;have hlq:=hltq _ _ (Hp.get_eq _ _ _);clear hltq;try refine zU ?_)|(refine LS.nilQ ?_;try with_reducible intro nq hnq;try refine zU ?_))
    refine RS.call rfl ((Hopf_fails h a n 7 ⟨1106, K, 35⟩ _ _ (by omega) hS (by exact zH) rfl hK hB).mono ?_)
    rintro r H' n3 hn3 ⟨rfl, rfl⟩
    (repeat first|refine zG ?_|(refine LS.nilO ?_;intro nq hnq hltq;try refine zU ?_)|(refine MS.new ?_;intro bq hbq hbqf;try refine zU ?_)|(refine MS.nil ?_;intro nq hnq hltq;have hlq:=hltq _ _ (Hp.get_eq _ _ _);clear hltq;try refine zU ?_)|(refine LS.nilQ ?_;try with_reducible intro nq hnq;try refine zU ?_))
    exact ⟨_, H, rfl, by exact zD, by rw [tb_iff (R := firstNot (ax h) 0 7 = 0) ⟨fun q => q.2, fun q => ⟨h1, q⟩⟩, tb_dec]; rfl, rfl⟩
  · (repeat first|refine zG ?_|(refine LS.nilO ?_;intro nq hnq hltq;try refine zU ?_)|(refine MS.new ?_;intro bq hbq hbqf;try refine zU ?_)|(refine MS.nil ?_;intro nq hnq hltq;have hlq:=hltq _ _ (Hp.get_eq _ _ _);clear hltq;try refine zU ?_)|(refine LS.nilQ ?_;try with_reducible intro nq hnq;try refine zU ?_))
    exact ⟨_, H, rfl, by exact zD, by rw [tb_false (fun q => h1 q.1)], rfl⟩
/-- impl.matricesCode -/
def ir38 : Cd := (.seq (.reg [⟨some 4,none,.mov (.c (.int .i64 0))⟩]) (.seq (.reg [⟨some 8,none,.mov (.t 0)⟩,⟨some 9,none,.ck (.t 8)⟩,⟨some 10,none,.ld (some 1106) (.t 9)⟩,⟨some 11,none,.call 58 [(.t 10)]⟩,⟨some 5,none,.mov (.t 11)⟩]) (.seq (.seq (.reg [⟨some 12,none,.mov (.t 1)⟩,⟨some 13,none,.len (.t 12)⟩,⟨some 14,none,.mov (.c (.int .i64 0))⟩]) (.block 0 (.loop (.seq (.reg [⟨some 15,none,.bin .lss (.t 14) (.t 13)⟩]) (.seq (.cond (.t 15) .skip (.exit 0)) (.seq (.block 1 (.seq (.reg [⟨some 16,none,.isl 1 (.t 12) (.t 14)⟩,⟨some 17,none,.ld none (.t 16)⟩,⟨some 7,none,.mov (.t 17)⟩]) (.drw true [15] [⟨some 18,none,.mov (.t 5)⟩,⟨some 19,none,.mov (.t 18)⟩,⟨some 20,(some (19,true)),.mov (.t 0)⟩,⟨some 21,(some (19,true)),.ck (.t 20)⟩,⟨some 22,(some (19,true)),.fa 0 (.t 21)⟩,⟨some 23,(some (19,true)),.ld none (.t 22)⟩,⟨some 24,(some (19,true)),.mov (.t 0)⟩,⟨some 25,(some (19,true)),.ck (.t 24)⟩,⟨some 26,(some (19,true)),.fa 1 (.t 25)⟩,⟨some 27,(some (19,true)),.ld none (.t 26)⟩,⟨some 28,(some (19,true)),.mov (.t 0)⟩,⟨some 29,(some (19,true)),.ck (.t 28)⟩,⟨some 30,(some (19,true)),.fa 1 (.t 29)⟩,⟨some 31,(some (19,true)),.ld none (.t 30)⟩,⟨some 32,(some (19,true)),.mov (.t 7)⟩,⟨some 33,(some (19,true)),.call 59 [(.t 23),(.t 27),(.t 31),(.t 32)]⟩,⟨some 34,none,.pick (.t 19) (.t 33) (.c (.bool false))⟩,⟨some 5,none,.mov (.t 34)⟩]))) (.reg [⟨some 35,none,.bin .add (.t 14) (.c (.int .i64 1))⟩,⟨some 14,none,.mov (.t 35)⟩]))))))) (.seq (.reg [⟨some 36,none,.mov (.t 5)⟩,⟨some 37,none,.call 40 [(.t 36),(.c (.int .i64 1))]⟩,⟨some 4,none,.mov (.t 37)⟩]) .ret))))
set_option maxRecDepth 100000 in
theorem tr38 : trFn Tryz.prog Tryz.f38 = some (38, ir38, [.tmp 4]) := by kernel_rfl
theorem impl_matricesCode (h : HT) (b : Nat) (v : SV) (len : Nat) (hl : len ≤ 100) (w : Nat → Nat → Int) (K : Blk) (H : Hp) (n : Nat) (hb : H.get b = some K) (hsz : K.size = 1106) (hK : h.At K.c) (hB : h.By) (hv : mls H v len w) (hw : ∀ i, i < len → isBy 64 (w i)) :
    FnS Tryz.prog 38 [ptr b 0, .s v] H n (fun r H' _ => r = i64 (cd (mok h len w)) ∧ H' = H) := by
  have hk0 := hK.p
  have hk1 := hK.n
  obtain ⟨bl1, cc, Kl, rfl, hbl, hsl, hcl⟩ := hv
  refine FnS.of_body Tryz.func38 tr38 (by simp) (fun hf => ?_)
  dsimp only [argEnv]
  unfold ir38
  have hbn := getlt hf hb
  (repeat first|refine zG ?_|(refine LS.nilO ?_;intro nq hnq hltq;try refine zU ?_)|(refine MS.new ?_;intro bq hbq hbqf;try refine zU ?_)|(refine MS.nil ?_;intro nq hnq hltq;have hlq:=hltq _ _ (Hp.get_eq _ _ _);clear hltq;try refine zU ?_)|(refine LS.nilQ ?_;try with_reducible intro nq hnq;try refine zU ?_))
  refine RS.call rfl ((FnS.args (concs_cons (conc_arr (fun q hq => rfl)) rfl) (impl_IsHopf h K.c _ _ hK hB)).mono ?_)
  rintro r H n2 hn2 ⟨rfl, rfl⟩
  (repeat first|refine zG ?_|(refine LS.nilO ?_;intro nq hnq hltq;try refine zU ?_)|(refine MS.new ?_;intro bq hbq hbqf;try refine zU ?_)|(refine MS.nil ?_;intro nq hnq hltq;have hlq:=hltq _ _ (Hp.get_eq _ _ _);clear hltq;try refine zU ?_)|(refine LS.nilQ ?_;try with_reducible intro nq hnq;try refine zU ?_))
  rw [tb_iff (R := mok h 0 w) ⟨fun q => ⟨q, fun i hi => by omega⟩, fun q => q.1⟩]
  refine CS.iter len (fun i => [(14, i64 i), (13, i64 len), (12, .s (.slc bl1 0 len cc)), (5, bl (tb (mok h i w))), (0, ptr b 0)]) (fun _ => H) (fun _ => True) (by (repeat first | exact trivial | refine And.intro rfl ?_)) (Drops.refl _ _) trivial ?_
  intro i n3 hi hn _
  (repeat first|refine zG ?_|(refine LS.nilO ?_;intro nq hnq hltq;try refine zU ?_)|(refine MS.new ?_;intro bq hbq hbqf;try refine zU ?_)|(refine MS.nil ?_;intro nq hnq hltq;have hlq:=hltq _ _ (Hp.get_eq _ _ _);clear hltq;try refine zU ?_)|(refine LS.nilQ ?_;try with_reducible intro nq hnq;try refine zU ?_))
  refine zI ?_ ?_<;>intro h2
  · obtain ⟨bi, Ki, c1, c2, c3, c4⟩ := hcl i (by omega)
    (repeat first|refine zG ?_|(refine LS.nilO ?_;intro nq hnq hltq;try refine zU ?_)|(refine MS.new ?_;intro bq hbq hbqf;try refine zU ?_)|(refine MS.nil ?_;intro nq hnq hltq;have hlq:=hltq _ _ (Hp.get_eq _ _ _);clear hltq;try refine zU ?_)|(refine LS.nilQ ?_;try with_reducible intro nq hnq;try refine zU ?_))
    refine RS.sp (t := 19) rfl (fun h3 => ?_) (fun h3 => ?_) <;> (try simp only [tb_eq, tb_eqF, decide_eq_true_eq, decide_eq_false_iff_not, beq_iff_eq, bne_iff_ne, ne_eq, Decidable.not_not, beq_eq_false_iff_ne, bne_eq_false_iff_eq, Bool.not_eq_true', Bool.not_eq_false', Bool.not_eq_eq_eq_not, Bool.not_true, Bool.not_false] at h3)
    · (repeat first|refine zG ?_|(refine LS.nilO ?_;intro nq hnq hltq;try refine zU ?_)|(refine MS.new ?_;intro bq hbq hbqf;try refine zU ?_)|(refine MS.nil ?_;intro nq hnq hltq;have hlq:=hltq _ _ (Hp.get_eq _ _ _);clear hltq;try refine zU ?_)|(refine LS.nilQ ?_;try with_reducible intro nq hnq;try refine zU ?_))
      refine RS.call rfl ((impl_isLinear h.p h.n h.n (w i) bi 0 Ki _ _ (by exact zH) (by omega) c4 (hw i (by omega))).mono ?_)
      rintro r H n4 hn4 ⟨rfl, rfl⟩
      rw [mok_step h3]
      (repeat first|refine zG ?_|(refine LS.nilO ?_;intro nq hnq hltq;try refine zU ?_)|(refine MS.new ?_;intro bq hbq hbqf;try refine zU ?_)|(refine MS.nil ?_;intro nq hnq hltq;have hlq:=hltq _ _ (Hp.get_eq _ _ _);clear hltq;try refine zU ?_)|(refine LS.nilQ ?_;try with_reducible intro nq hnq;try refine zU ?_))
      exact ⟨by omega, by (repeat first | exact trivial | refine And.intro rfl ?_), Drops.refl _ _, trivial⟩
    · (repeat first|refine zG ?_|(refine LS.nilO ?_;intro nq hnq hltq;try refine zU ?_)|(refine MS.new ?_;intro bq hbq hbqf;try refine zU ?_)|(refine MS.nil ?_;intro nq hnq hltq;have hlq:=hltq _ _ (Hp.get_eq _ _ _);clear hltq;try refine zU ?_)|(refine LS.nilQ ?_;try with_reducible intro nq hnq;try refine zU ?_))
      rw [← tb_false (mok_no h3)]
      exact ⟨by omega, by (repeat first | exact trivial | refine And.intro rfl ?_), Drops.refl _ _, trivial⟩
  · have : i = len := by omega
    subst this
    (repeat first|refine zG ?_|(refine LS.nilO ?_;intro nq hnq hltq;try refine zU ?_)|(refine MS.new ?_;intro bq hbq hbqf;try refine zU ?_)|(refine MS.nil ?_;intro nq hnq hltq;have hlq:=hltq _ _ (Hp.get_eq _ _ _);clear hltq;try refine zU ?_)|(refine LS.nilQ ?_;try with_reducible intro nq hnq;try refine zU ?_))
    refine RS.call rfl ((impl_unless _ _ _).mono ?_)
    rintro r H n4 hn4 ⟨rfl, rfl⟩
    (repeat first|refine zG ?_|(refine LS.nilO ?_;intro nq hnq hltq;try refine zU ?_)|(refine MS.new ?_;intro bq hbq hbqf;try refine zU ?_)|(refine MS.nil ?_;intro nq hnq hltq;have hlq:=hltq _ _ (Hp.get_eq _ _ _);clear hltq;try refine zU ?_)|(refine LS.nilQ ?_;try with_reducible intro nq hnq;try refine zU ?_))
    exact ⟨_, H, rfl, by exact zD, rfl, rfl⟩
/-- impl.universalCode -/
def ir24 : Cd := (.seq (.reg [⟨some 4,none,.mov (.c (.int .i64 0))⟩]) (.seq (.reg [⟨some 6,none,.mov (.t 0)⟩,⟨some 7,none,.mov (.t 1)⟩,⟨some 8,none,.bsl 56 1 1 [(1,.nil)] [(0,1,(.t 7))]⟩,⟨some 9,none,.call 38 [(.t 6),(.t 8)]⟩,⟨some 5,none,.mov (.t 9)⟩]) (.seq (.reg [⟨some 10,none,.mov (.t 5)⟩,⟨some 11,none,.mov (.t 5)⟩,⟨some 12,none,.bin .neq (.t 11) (.c (.int .i64 0))⟩,⟨some 13,none,.mov (.t 12)⟩,⟨some 14,(some (13,false)),.mov (.t 0)⟩,⟨some 15,(some (13,false)),.mov (.t 1)⟩,⟨some 16,(some (13,false)),.call 48 [(.t 14),(.t 15)]⟩,⟨some 17,(some (13,false)),.bin .eql (.t 16) (.c (.int .i64 0))⟩,⟨some 18,none,.pick (.t 13) (.c (.bool true)) (.t 17)⟩,⟨some 19,none,.call 40 [(.t 18),(.c (.int .i64 5))]⟩,⟨some 20,none,.bsl 2 2 1 [(1,(.int .i64 0))] [(0,1,(.t 10)),(1,1,(.t 19))]⟩,⟨some 21,none,.call 39 [(.t 20)]⟩,⟨some 4,none,.mov (.t 21)⟩]) .ret)))
set_option maxRecDepth 100000 in
theorem tr24 : trFn Tryz.prog Tryz.f24 = some (22, ir24, [.tmp 4]) := by kernel_rfl
theorem impl_universalCode (h : HT) (s : Nat → Int) (b bs : Nat) (K Ks : Blk) (H : Hp) (n : Nat) (hb : H.get b = some K) (hsz : K.size = 1106) (hK : h.At K.c) (hB : h.By)
    (hbs : H.get bs = some Ks) (ho : Ks.size = 64) (hc : ∀ i, i < 64 → Ks.c i = .int .u8 (s i)) (hs : isBy 64 s) :
    FnS Tryz.prog 24 [ptr b 0, ptr bs 0] H n (fun r H' _ => r = i64 (sc5 (mok h 1 (fun _ => s)) (cnd h h.N s = 0)) ∧ H' = H) := by
  have hk1 := hK.n
  refine FnS.of_body Tryz.func24 tr24 (by simp) (fun hf => ?_)
  dsimp only [argEnv]
  unfold ir24
  have hbn := getlt hf hb
  have hbn2 := getlt hf hbs
  (repeat first|refine zG ?_|(refine LS.nilO ?_;intro nq hnq hltq;try refine zU ?_)|(refine MS.new ?_;intro bq hbq hbqf;try refine zU ?_)|(refine MS.nil ?_;intro nq hnq hltq;have hlq:=hltq _ _ (Hp.get_eq _ _ _);clear hltq;try refine zU ?_)|(refine LS.nilQ ?_;try with_reducible intro nq hnq;try refine zU ?_))
  refine RS.call rfl ((impl_matricesCode h b (.slc n 0 1 1) 1 (by omega) (fun _ => s) K _ _ (by exact zH) hsz hK hB ⟨n, 1, _, rfl, by exact zH, (by simp), fun i hi => ⟨bs, Ks, by (obtain rfl : i = 0 := by omega); rfl, by exact zH, (by omega), fun q hq => by rw [Nat.zero_add]; exact hc q hq⟩⟩ (fun _ _ => hs)).mono ?_)
  rintro r H' n2 hn2 ⟨rfl, rfl⟩
  by_cases h3 : mok h 1 (fun _ => s)
  · rw [cd_true h3]
    obtain ⟨a, hS⟩ := isHopf.hs h3.1
    have hN := hS.N
    subst hN
    have hz0 := h3.lz hS (show 0 < 1 by omega)
    obtain ⟨x0, hx0⟩ : ∃ x, x = cnd h h.N s := ⟨_, rfl⟩
    (repeat first|refine zG ?_|(refine LS.nilO ?_;intro nq hnq hltq;try refine zU ?_)|(refine MS.new ?_;intro bq hbq hbqf;try refine zU ?_)|(refine MS.nil ?_;intro nq hnq hltq;have hlq:=hltq _ _ (Hp.get_eq _ _ _);clear hltq;try refine zU ?_)|(refine LS.nilQ ?_;try with_reducible intro nq hnq;try refine zU ?_))
    refine RS.call rfl ((Hopf_condition h h.N s b bs 0 K Ks _ _ hS (by exact zH) hsz hK hB (by exact zH) (by omega) (fun q hq => by rw [Nat.zero_add]; exact hc q hq) hs hz0).mono ?_)
    rw [← hx0]
    rintro r H' n3 hn3 ⟨rfl, rfl⟩
    (repeat first|refine zG ?_|(refine LS.nilO ?_;intro nq hnq hltq;try refine zU ?_)|(refine MS.new ?_;intro bq hbq hbqf;try refine zU ?_)|(refine MS.nil ?_;intro nq hnq hltq;have hlq:=hltq _ _ (Hp.get_eq _ _ _);clear hltq;try refine zU ?_)|(refine LS.nilQ ?_;try with_reducible intro nq hnq;try refine zU ?_))
    by_cases h4 : x0 = 0
    · have h5 : h.p = h.p := rfl
      rw [show (x0 == 0) = true by simpa using h4]
      refine RS.call rfl ((impl_unlessB true 5 _ _).mono ?_)
      rintro r H' n4 hn4 ⟨rfl, rfl⟩
      simp only [↓reduceIte]
      (repeat first|refine zG ?_|(refine LS.nilO ?_;intro nq hnq hltq;try refine zU ?_)|(refine MS.new ?_;intro bq hbq hbqf;try refine zU ?_)|(refine MS.nil ?_;intro nq hnq hltq;have hlq:=hltq _ _ (Hp.get_eq _ _ _);clear hltq;try refine zU ?_)|(refine LS.nilQ ?_;try with_reducible intro nq hnq;try refine zU ?_))
      refine RS.call rfl ((impl_first2 n4 2 0 0 _ _ _ (by exact zH) rfl rfl rfl).mono ?_)
      rintro r H' n5 hn5 ⟨rfl, rfl⟩
      simp only [ne_eq, not_true_eq_false, ↓reduceIte]
      (repeat first|refine zG ?_|(refine LS.nilO ?_;intro nq hnq hltq;try refine zU ?_)|(refine MS.new ?_;intro bq hbq hbqf;try refine zU ?_)|(refine MS.nil ?_;intro nq hnq hltq;have hlq:=hltq _ _ (Hp.get_eq _ _ _);clear hltq;try refine zU ?_)|(refine LS.nilQ ?_;try with_reducible intro nq hnq;try refine zU ?_))
      exact ⟨_, H, rfl, by exact zD, by rw [sc5_0 h3 h4], rfl⟩
    · have e4 : (x0 == 0) = false := by simpa using h4
      rw [e4]
      refine RS.call rfl ((impl_unlessB false 5 _ _).mono ?_)
      rintro r H' n4 hn4 ⟨rfl, rfl⟩
      simp only [Bool.false_eq_true, ↓reduceIte]
      (repeat first|refine zG ?_|(refine LS.nilO ?_;intro nq hnq hltq;try refine zU ?_)|(refine MS.new ?_;intro bq hbq hbqf;try refine zU ?_)|(refine MS.nil ?_;intro nq hnq hltq;have hlq:=hltq _ _ (Hp.get_eq _ _ _);clear hltq;try refine zU ?_)|(refine LS.nilQ ?_;try with_reducible intro nq hnq;try refine zU ?_))
      refine RS.call rfl ((impl_first2 n4 2 0 5 _ _ _ (by exact zH) rfl rfl rfl).mono ?_)
      rintro r H' n5 hn5 ⟨rfl, rfl⟩
      simp only [ne_eq, not_true_eq_false, ↓reduceIte]
      (repeat first|refine zG ?_|(refine LS.nilO ?_;intro nq hnq hltq;try refine zU ?_)|(refine MS.new ?_;intro bq hbq hbqf;try refine zU ?_)|(refine MS.nil ?_;intro nq hnq hltq;have hlq:=hltq _ _ (Hp.get_eq _ _ _);clear hltq;try refine zU ?_)|(refine LS.nilQ ?_;try with_reducible intro nq hnq;try refine zU ?_))
      exact ⟨_, H, rfl, by exact zD, by rw [sc5_5 h3 h4], rfl⟩
  · rw [cd_false h3]
    (repeat first|refine zG ?_|(refine LS.nilO ?_;intro nq hnq hltq;try refine zU ?_)|(refine MS.new ?_;intro bq hbq hbqf;try refine zU ?_)|(refine MS.nil ?_;intro nq hnq hltq;have hlq:=hltq _ _ (Hp.get_eq _ _ _);clear hltq;try refine zU ?_)|(refine LS.nilQ ?_;try with_reducible intro nq hnq;try refine zU ?_))
    refine RS.call rfl ((impl_unlessB true 5 _ _).mono ?_)
    rintro r H' n4 hn4 ⟨rfl, rfl⟩
    simp only [↓reduceIte]
    (repeat first|refine zG ?_|(refine LS.nilO ?_;intro nq hnq hltq;try refine zU ?_)|(refine MS.new ?_;intro bq hbq hbqf;try refine zU ?_)|(refine MS.nil ?_;intro nq hnq hltq;have hlq:=hltq _ _ (Hp.get_eq _ _ _);clear hltq;try refine zU ?_)|(refine LS.nilQ ?_;try with_reducible intro nq hnq;try refine zU ?_))
    refine RS.call rfl ((impl_first2 n4 2 1 0 _ _ _ (by exact zH) rfl rfl rfl).mono ?_)
    rintro r H' n5 hn5 ⟨rfl, rfl⟩
    rw [if_pos (by decide)]
    (repeat first|refine zG ?_|(refine LS.nilO ?_;intro nq hnq hltq;try refine zU ?_)|(refine MS.new ?_;intro bq hbq hbqf;try refine zU ?_)|(refine MS.nil ?_;intro nq hnq hltq;have hlq:=hltq _ _ (Hp.get_eq _ _ _);clear hltq;try refine zU ?_)|(refine LS.nilQ ?_;try with_reducible intro nq hnq;try refine zU ?_))
    exact ⟨_, H, rfl, by exact zD, by rw [sc5_1 h3], rfl⟩
end Go.Proofs.YtbknndbfbebkdabGreatR
