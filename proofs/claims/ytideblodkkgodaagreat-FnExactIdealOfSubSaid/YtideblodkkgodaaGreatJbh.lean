/- Contracts of the program's functions. -/
import Derived.Test.YtideblodkkgodaaGreatJam
import Derived.Test.YtideblodkkgodaaGreatJal
import Derived.Test.YtideblodkkgodaaGreatJbe
import Derived.Test.YtideblodkkgodaaGreatJbf
set_option linter.unusedSectionVars false
set_option linter.unusedVariables false
set_option linter.unusedSimpArgs false

namespace Go.Proofs.YtideblodkkgodaaGreat

open Go.V

variable [BW]

set_option linter.unusedSimpArgs false

set_option linter.unusedVariables false

set_option maxHeartbeats 4000000

/-- (*impl.Hopf).fails$1 -/
def ir86 : Cd := (.seq (.reg [⟨some 1,none,.mov (.c (.bool false))⟩]) (.seq (.reg [⟨some 2,none,.ld none (.t 0)⟩,⟨some 3,none,.call 81 [(.t 2)]⟩,⟨some 4,none,.ck (.t 3)⟩,⟨some 5,none,.ld (some 522) (.t 4)⟩,⟨some 6,none,.call 87 [(.t 5)]⟩,⟨some 1,none,.mov (.t 6)⟩]) .ret))

set_option maxRecDepth 100000 in
theorem tr86 : trFn Tryz.prog Tryz.f86 = some (7, ir86, [.tmp 1]) := by kernel_rfl

theorem Hopf_fails_1 (h : HT) (b nb : Nat) (K Kb : Blk) (H : Hp) (n : Nat) (hb : H.get b = some K) (hsz : K.size = 1106) (hK : h.At K.c) (hB : h.By)
    (gb : H.get nb = some Kb) (sb : Kb.size = 1) (cb : Kb.c 0 = .ptr b 0) :
    FnS Tryz.prog 86 [ptr nb 0] H n (fun r H' _ => r = bl (tb (ax h 0)) ∧ H' = H) := by
  refine FnS.of_body Tryz.func86 tr86 (by simp) (fun hf => ?_)
  dsimp only [argEnv]
  unfold ir86
  have hbn := getlt hf hb
  (refine zG ?_)
  refine RS.call rfl ((Hopf_algebra h b K _ _ (by exact zH) hsz hK).mono ?_)
  rintro r H' n2 hn2 ⟨b1, c1, rfl, q1, q2, rfl, q3, q4, q5, q6⟩
  (refine zG ?_)
  refine RS.call rfl ((impl_IsAlgebra h.p h.n h.u h.m c1 _ _ q3 q4 q5 q6 hB.u hB.m).mono ?_)
  rintro r H' n3 hn3 ⟨rfl, rfl⟩
  (refine zG ?_)
  exact ⟨_, H, rfl, by exact zD, rfl, rfl⟩

/-- (*impl.Hopf).fails$2 -/
def ir88 : Cd := (.seq (.reg [⟨some 1,none,.mov (.c (.bool false))⟩]) (.seq (.reg [⟨some 2,none,.ld none (.t 0)⟩,⟨some 3,none,.call 83 [(.t 2)]⟩,⟨some 4,none,.ck (.t 3)⟩,⟨some 5,none,.ld (some 522) (.t 4)⟩,⟨some 6,none,.call 89 [(.t 5)]⟩,⟨some 1,none,.mov (.t 6)⟩]) .ret))

set_option maxRecDepth 100000 in
theorem tr88 : trFn Tryz.prog Tryz.f88 = some (7, ir88, [.tmp 1]) := by kernel_rfl

theorem Hopf_fails_2 (h : HT) (b nb : Nat) (K Kb : Blk) (H : Hp) (n : Nat) (hb : H.get b = some K) (hsz : K.size = 1106) (hK : h.At K.c) (hB : h.By)
    (gb : H.get nb = some Kb) (sb : Kb.size = 1) (cb : Kb.c 0 = .ptr b 0) :
    FnS Tryz.prog 88 [ptr nb 0] H n (fun r H' _ => r = bl (tb (ax h 1)) ∧ H' = H) := by
  refine FnS.of_body Tryz.func88 tr88 (by simp) (fun hf => ?_)
  dsimp only [argEnv]
  unfold ir88
  have hbn := getlt hf hb
  (refine zG ?_)
  refine RS.call rfl ((Hopf_coalgebra h b K _ _ (by exact zH) hsz hK).mono ?_)
  rintro r H' n2 hn2 ⟨b1, c1, rfl, q1, q2, rfl, q3, q4, q5, q6⟩
  (refine zG ?_)
  refine RS.call rfl ((impl_IsCoalgebra h.p h.n h.e h.c c1 _ _ q3 q4 q5 q6 hB.e hB.c).mono ?_)
  rintro r H' n3 hn3 ⟨rfl, rfl⟩
  (refine zG ?_)
  exact ⟨_, H, rfl, by exact zD, rfl, rfl⟩

/-- (*impl.Hopf).fails$3 -/
def ir93 : Cd := (.seq (.reg [⟨some 1,none,.mov (.c (.bool false))⟩]) (.seq (.reg [⟨some 2,none,.ld none (.t 0)⟩,⟨some 3,none,.call 94 [(.t 2),(.c (.bool true))]⟩,⟨some 1,none,.mov (.t 3)⟩]) .ret))

set_option maxRecDepth 100000 in
theorem tr93 : trFn Tryz.prog Tryz.f93 = some (4, ir93, [.tmp 1]) := by kernel_rfl

theorem Hopf_fails_3 (h : HT) (a b nb : Nat) (K Kb : Blk) (H : Hp) (n : Nat) (hS : HS h a) (hb : H.get b = some K) (hsz : K.size = 1106) (hK : h.At K.c) (hB : h.By)
    (gb : H.get nb = some Kb) (sb : Kb.size = 1) (cb : Kb.c 0 = .ptr b 0) :
    FnS Tryz.prog 93 [ptr nb 0] H n (fun r H' _ => r = bl (tb (ax h 5)) ∧ H' = H) := by
  refine FnS.of_body Tryz.func93 tr93 (by simp) (fun hf => ?_)
  dsimp only [argEnv]
  unfold ir93
  have hbn := getlt hf hb
  (refine zG ?_)
  refine RS.call rfl ((Hopf_axiomS h a true (g6 h.p h.m h.s a) rfl b K _ _ hS (by exact zH) hsz hK hB).mono ?_)
  rintro r H n2 hn2 ⟨rfl, rfl⟩
  (refine zG ?_)
  exact ⟨_, H, rfl, by exact zD, congrArg bl (tb_iff (ax_fold6 hS).symm), rfl⟩

/-- (*impl.Hopf).fails$4 -/
def ir95 : Cd := (.seq (.reg [⟨some 1,none,.mov (.c (.bool false))⟩]) (.seq (.reg [⟨some 2,none,.ld none (.t 0)⟩,⟨some 3,none,.call 94 [(.t 2),(.c (.bool false))]⟩,⟨some 1,none,.mov (.t 3)⟩]) .ret))

set_option maxRecDepth 100000 in
theorem tr95 : trFn Tryz.prog Tryz.f95 = some (4, ir95, [.tmp 1]) := by kernel_rfl

theorem Hopf_fails_4 (h : HT) (a b nb : Nat) (K Kb : Blk) (H : Hp) (n : Nat) (hS : HS h a) (hb : H.get b = some K) (hsz : K.size = 1106) (hK : h.At K.c) (hB : h.By)
    (gb : H.get nb = some Kb) (sb : Kb.size = 1) (cb : Kb.c 0 = .ptr b 0) :
    FnS Tryz.prog 95 [ptr nb 0] H n (fun r H' _ => r = bl (tb (ax h 6)) ∧ H' = H) := by
  refine FnS.of_body Tryz.func95 tr95 (by simp) (fun hf => ?_)
  dsimp only [argEnv]
  unfold ir95
  have hbn := getlt hf hb
  (refine zG ?_)
  refine RS.call rfl ((Hopf_axiomS h a false (g7 h.p h.m h.s a) rfl b K _ _ hS (by exact zH) hsz hK hB).mono ?_)
  rintro r H n2 hn2 ⟨rfl, rfl⟩
  (refine zG ?_)
  exact ⟨_, H, rfl, by exact zD, congrArg bl (tb_iff (ax_fold7 hS).symm), rfl⟩

theorem axF_ok (h : HT) (a b nb : Nat) (K Kb : Blk) (H : Hp) (hS : HS h a) (hb : H.get b = some K) (hsz : K.size = 1106) (hK : h.At K.c) (hB : h.By)
    (gb : H.get nb = some Kb) (sb : Kb.size = 1) (cb : Kb.c 0 = .ptr b 0) (k : Nat) (hk : k < 7) :
    ∃ f pre post, axF b nb k = .fn f pre post ∧ ∀ n, FnS Tryz.prog f (pre.map .s ++ [] ++ post.map .s) H n (fun r H' _ => r = bl (tb (ax h k)) ∧ H' = H) := by
  have : k = 0 ∨ k = 1 ∨ k = 2 ∨ k = 3 ∨ k = 4 ∨ k = 5 ∨ k = 6 := by omega
  rcases this with rfl | rfl | rfl | rfl | rfl | rfl | rfl
  · exact ⟨_, _, _, rfl, fun n => Hopf_fails_1 h b nb K Kb H n hb hsz hK hB gb sb cb⟩
  · exact ⟨_, _, _, rfl, fun n => Hopf_fails_2 h b nb K Kb H n hb hsz hK hB gb sb cb⟩
  · exact ⟨_, _, _, rfl, fun n => Hopf_axiom3 h a b K H n hS hb hsz hK hB⟩
  · exact ⟨_, _, _, rfl, fun n => Hopf_axiom4 h a b K H n hS hb hsz hK hB⟩
  · exact ⟨_, _, _, rfl, fun n => Hopf_axiom5 h a b K H n hS hb hsz hK hB⟩
  · exact ⟨_, _, _, rfl, fun n => Hopf_fails_3 h a b nb K Kb H n hS hb hsz hK hB gb sb cb⟩
  · exact ⟨_, _, _, rfl, fun n => Hopf_fails_4 h a b nb K Kb H n hS hb hsz hK hB gb sb cb⟩

/-- (*impl.Hopf).fails -/
def ir63 : Cd := (.seq (.reg [⟨some 2,none,.box 81 (.t 0)⟩,⟨some 4,none,.mov (.c (.int .i64 0))⟩]) (.seq (.reg [⟨some 8,none,.mkf 86 [] [(.t 2)]⟩,⟨some 9,none,.mkf 88 [] [(.t 2)]⟩,⟨some 10,none,.ld none (.t 2)⟩,⟨some 11,none,.mkf 90 [(.t 10)] []⟩,⟨some 12,none,.ld none (.t 2)⟩,⟨some 13,none,.mkf 91 [(.t 12)] []⟩,⟨some 14,none,.ld none (.t 2)⟩,⟨some 15,none,.mkf 92 [(.t 14)] []⟩,⟨some 16,none,.mkf 93 [] [(.t 2)]⟩,⟨some 17,none,.mkf 95 [] [(.t 2)]⟩,⟨some 18,none,.bsl 95 7 1 [(1,.nilfn)] [(0,1,(.t 8)),(1,1,(.t 9)),(2,1,(.t 11)),(3,1,(.t 13)),(4,1,(.t 15)),(5,1,(.t 16)),(6,1,(.t 17))]⟩,⟨some 5,none,.mov (.t 18)⟩]) (.seq (.seq (.reg [⟨some 19,none,.mov (.t 5)⟩,⟨some 20,none,.mov (.t 1)⟩,⟨some 21,none,.sls 1 (.t 19) none (some (.t 20)) none⟩,⟨some 22,none,.len (.t 21)⟩,⟨some 23,none,.mov (.c (.int .i64 0))⟩]) (.block 0 (.loop (.seq (.reg [⟨some 24,none,.bin .lss (.t 23) (.t 22)⟩]) (.seq (.cond (.t 24) .skip (.exit 0)) (.seq (.block 1 (.seq (.reg [⟨some 25,none,.mov (.t 23)⟩,⟨some 26,none,.isl 1 (.t 21) (.t 23)⟩,⟨some 27,none,.ld none (.t 26)⟩,⟨some 6,none,.mov (.t 25)⟩,⟨some 7,none,.mov (.t 27)⟩]) (.seq (.reg [⟨some 28,none,.mov (.t 7)⟩,⟨some 29,none,.callv (.t 28) []⟩,⟨some 30,none,.un .not (.t 29)⟩]) (.cond (.t 30) (.seq (.reg [⟨some 31,none,.mov (.t 6)⟩,⟨some 32,none,.bin .add (.t 31) (.c (.int .i64 1))⟩,⟨some 4,none,.mov (.t 32)⟩]) .ret) .skip)))) (.reg [⟨some 33,none,.bin .add (.t 23) (.c (.int .i64 1))⟩,⟨some 23,none,.mov (.t 33)⟩]))))))) (.seq (.reg [⟨some 4,none,.mov (.c (.int .i64 0))⟩]) .ret))))

set_option maxRecDepth 100000 in
theorem tr63 : trFn Tryz.prog Tryz.f63 = some (34, ir63, [.tmp 4]) := by kernel_rfl

theorem Hopf_fails (h : HT) (a b up : Nat) (K : Blk) (H : Hp) (n : Nat) (hup : up ≤ 7) (hS : HS h a) (hb : H.get b = some K) (hsz : K.size = 1106) (hK : h.At K.c) (hB : h.By) :
    FnS Tryz.prog 63 [ptr b 0, i64 up] H n (fun r H' _ => r = i64 (firstNot (ax h) 0 up) ∧ H' = H) := by
  refine FnS.of_body Tryz.func63 tr63 (by simp) (fun hf => ?_)
  dsimp only [argEnv]
  unfold ir63
  have hbn := getlt hf hb
  (refine zG ?_)
  refine RS.slsTo (by exact rfl) (by exact rfl) rfl (by omega) ?_
  (refine zG ?_)
  refine CS.iter up (fun k => [(23, i64 k), (22, i64 up), (21, .s (.slc (n + 1) 0 up 7))]) (fun _ => (n + 1, ⟨7, axF b n, 95⟩) :: (n, ⟨1, fun _ => .ptr b 0, 81⟩) :: H)
    (fun k => firstNot (ax h) 0 up = firstNot (ax h) k (up - k)) (by (repeat first | exact trivial | refine And.intro rfl ?_)) (Drops.keepc rfl rfl (fun q hq => ?_) (Drops.refl _ _)) rfl ?_
  · have hq7 : q < 7 := hq
    have : q = 0 ∨ q = 1 ∨ q = 2 ∨ q = 3 ∨ q = 4 ∨ q = 5 ∨ q = 6 := by omega
    rcases this with rfl | rfl | rfl | rfl | rfl | rfl | rfl <;> rfl
  intro k n1 hk hn hJ
  (refine zG ?_)
  refine zI ?_ ?_<;>intro h2
  · obtain ⟨f, pre, post, e, hF⟩ := axF_ok h a b n K ⟨1, fun _ => .ptr b 0, 81⟩ ((n + 1, ⟨7, axF b n, 95⟩) :: (n, ⟨1, fun _ => .ptr b 0, 81⟩) :: H) hS (by exact zH) hsz hK hB (by exact zH) rfl rfl k (by omega)
    have e' : (⟨7, axF b n, 95⟩ : Blk).c (0 + k * 1) = .fn f pre post := by rw [Nat.zero_add, Nat.mul_one]; exact e
    (refine zG ?_)
    refine RS.callv (f := f) (pre := pre) (post := post) (vs := []) (by exact rfl) (by exact rfl) ?_
    refine FnS.mono (hF n1) ?_
    rintro r H' n2 hn2 ⟨rfl, rfl⟩
    (refine zG ?_)
    refine zI ?_ ?_<;>intro h3
    · (refine zG ?_)
      exact ⟨_, H, rfl, by exact zD, by rw [hJ, show up - k = (up - k - 1) + 1 by omega, firstNot_end h3], rfl⟩
    · (refine zG ?_)
      exact ⟨by omega, by (repeat first | exact trivial | refine And.intro rfl ?_), by exact zD, by rw [hJ, show up - k = (up - (k + 1)) + 1 by omega, firstNot_go h3]⟩
  · have : k = up := by omega
    subst this
    (refine zG ?_)
    exact ⟨_, H, rfl, by exact zD, by rw [hJ, Nat.sub_self]; rfl, rfl⟩

/-- impl.IsHopf -/
def ir48 : Cd := (.seq (.reg [⟨some 1,none,.box 38 (.t 0)⟩,⟨some 2,none,.mov (.c (.bool false))⟩]) (.seq (.reg [⟨some 3,none,.call 62 [(.t 1)]⟩,⟨some 4,none,.mov (.t 3)⟩,⟨some 5,(some (4,true)),.call 63 [(.t 1),(.c (.int .i64 7))]⟩,⟨some 6,(some (4,true)),.bin .eql (.t 5) (.c (.int .i64 0))⟩,⟨some 7,none,.pick (.t 4) (.t 6) (.c (.bool false))⟩,⟨some 2,none,.mov (.t 7)⟩]) .ret))

set_option maxRecDepth 100000 in
theorem tr48 : trFn Tryz.prog Tryz.f48 = some (8, ir48, [.tmp 2]) := by kernel_rfl

theorem impl_IsHopf (h : HT) (K : Nat → SV) (H : Hp) (n : Nat) (hK : h.At K) (hB : h.By) :
    FnS Tryz.prog 48 [.arr 1106 K] H n (fun r H' _ => r = bl (tb (isHopf h)) ∧ H' = H) := by
  refine FnS.of_body Tryz.func48 tr48 (by simp) (fun hf => ?_)
  dsimp only [argEnv]
  unfold ir48
  (refine zG ?_)
  refine RS.call rfl ((Hopf_isShaped h n ⟨1106, K, 38⟩ _ _ (by exact zH) rfl hK hB).mono ?_)
  rintro r H' n2 hn2 ⟨rfl, rfl⟩
  (refine zG ?_)
  refine RS.sp (t := 4) rfl (fun h1 => ?_) (fun h1 => ?_) <;> (try simp only [tb_eq, tb_eqF, decide_eq_true_eq, decide_eq_false_iff_not, beq_iff_eq, bne_iff_ne, ne_eq, Decidable.not_not, beq_eq_false_iff_ne, bne_eq_false_iff_eq, Bool.not_eq_true', Bool.not_eq_false', Bool.not_eq_eq_eq_not, Bool.not_true, Bool.not_false] at h1)
  · obtain ⟨a, hS⟩ := h1.hs
    (refine zG ?_)
    refine RS.call rfl ((Hopf_fails h a n 7 ⟨1106, K, 38⟩ _ _ (by omega) hS (by exact zH) rfl hK hB).mono ?_)
    rintro r H' n3 hn3 ⟨rfl, rfl⟩
    (refine zG ?_)
    exact ⟨_, H, rfl, by exact zD, by rw [tb_iff (R := firstNot (ax h) 0 7 = 0) ⟨fun q => q.2, fun q => ⟨h1, q⟩⟩, tb_dec]; rfl, rfl⟩
  · (refine zG ?_)
    exact ⟨_, H, rfl, by exact zD, by rw [tb_false (fun q => h1 q.1)], rfl⟩

/-- (*impl.Hopf).code -/
def ir26 : Cd := (.seq (.reg [⟨some 4,none,.mov (.c (.int .i64 0))⟩]) (.seq (.reg [⟨some 5,none,.mov (.t 0)⟩,⟨some 6,none,.ck (.t 5)⟩,⟨some 7,none,.ld (some 1106) (.t 6)⟩,⟨some 8,none,.call 48 [(.t 7)]⟩,⟨some 9,none,.mov (.t 8)⟩,⟨some 10,(some (9,true)),.mov (.t 0)⟩,⟨some 11,(some (9,true)),.mov (.t 1)⟩,⟨some 12,(some (9,true)),.call 49 [(.t 10),(.t 11)]⟩,⟨some 13,none,.pick (.t 9) (.t 12) (.c (.bool false))⟩,⟨some 14,none,.call 47 [(.t 13),(.c (.int .i64 1))]⟩,⟨some 4,none,.mov (.t 14)⟩]) .ret))

set_option maxRecDepth 100000 in
theorem tr26 : trFn Tryz.prog Tryz.f26 = some (15, ir26, [.tmp 4]) := by kernel_rfl

theorem Hopf_code (h : HT) (b : Nat) (v : SV) (len : Nat) (hl : len ≤ 4000000) (w : Nat → Int) (K : Blk) (H : Hp) (n : Nat) (hb : H.get b = some K) (hsz : K.size = 1106) (hK : h.At K.c) (hB : h.By) (hv : lst H v len w) (hw : isBy (8 * len) w) :
    FnS Tryz.prog 26 [ptr b 0, .s v] H n (fun r H' _ => r = i64 (cd (isHopf h ∧ ∀ i, i < len → isVec h.p h.n (fun x => w (i * 8 + x)))) ∧ H' = H) := by
  refine FnS.of_body Tryz.func26 tr26 (by simp) (fun hf => ?_)
  dsimp only [argEnv]
  unfold ir26
  have hbn := getlt hf hb
  (repeat first|refine zG ?_|(refine LS.nilO ?_;intro nq hnq hltq;try refine zU ?_)|(refine MS.new ?_;intro bq hbq hbqf;try refine zU ?_)|(refine MS.nil ?_;intro nq hnq hltq;have hlq:=hltq _ _ (Hp.get_eq _ _ _);clear hltq;try refine zU ?_)|(refine LS.nilQ ?_;try with_reducible intro nq hnq;try refine zU ?_))
  refine RS.call rfl ((FnS.args (concs_cons (conc_arr (fun q hq => rfl)) rfl) (impl_IsHopf h K.c _ _ hK hB)).mono ?_)
  rintro r H n2 hn2 ⟨rfl, rfl⟩
  (repeat first|refine zG ?_|(refine LS.nilO ?_;intro nq hnq hltq;try refine zU ?_)|(refine MS.new ?_;intro bq hbq hbqf;try refine zU ?_)|(refine MS.nil ?_;intro nq hnq hltq;have hlq:=hltq _ _ (Hp.get_eq _ _ _);clear hltq;try refine zU ?_)|(refine LS.nilQ ?_;try with_reducible intro nq hnq;try refine zU ?_))
  refine RS.sp (t := 9) rfl (fun h1 => ?_) (fun h1 => ?_) <;> (try simp only [tb_eq, tb_eqF, decide_eq_true_eq, decide_eq_false_iff_not, beq_iff_eq, bne_iff_ne, ne_eq, Decidable.not_not, beq_eq_false_iff_ne, bne_eq_false_iff_eq, Bool.not_eq_true', Bool.not_eq_false', Bool.not_eq_eq_eq_not, Bool.not_true, Bool.not_false] at h1)
  · (repeat first|refine zG ?_|(refine LS.nilO ?_;intro nq hnq hltq;try refine zU ?_)|(refine MS.new ?_;intro bq hbq hbqf;try refine zU ?_)|(refine MS.nil ?_;intro nq hnq hltq;have hlq:=hltq _ _ (Hp.get_eq _ _ _);clear hltq;try refine zU ?_)|(refine LS.nilQ ?_;try with_reducible intro nq hnq;try refine zU ?_))
    refine RS.call rfl ((Hopf_has h b v len hl w K _ _ (by exact zH) (by omega) hK hv hw).mono ?_)
    rintro r H n3 hn3 ⟨rfl, rfl⟩
    (repeat first|refine zG ?_|(refine LS.nilO ?_;intro nq hnq hltq;try refine zU ?_)|(refine MS.new ?_;intro bq hbq hbqf;try refine zU ?_)|(refine MS.nil ?_;intro nq hnq hltq;have hlq:=hltq _ _ (Hp.get_eq _ _ _);clear hltq;try refine zU ?_)|(refine LS.nilQ ?_;try with_reducible intro nq hnq;try refine zU ?_))
    refine RS.call rfl ((impl_unless _ _ _).mono ?_)
    rintro r H n4 hn4 ⟨rfl, rfl⟩
    (repeat first|refine zG ?_|(refine LS.nilO ?_;intro nq hnq hltq;try refine zU ?_)|(refine MS.new ?_;intro bq hbq hbqf;try refine zU ?_)|(refine MS.nil ?_;intro nq hnq hltq;have hlq:=hltq _ _ (Hp.get_eq _ _ _);clear hltq;try refine zU ?_)|(refine LS.nilQ ?_;try with_reducible intro nq hnq;try refine zU ?_))
    exact ⟨_, H, rfl, by exact zD, congrArg i64 (cd_iff ⟨fun q => ⟨h1, fun i hi => (q i hi).2⟩, fun q i hi => ⟨h1.1.1.1, q.2 i hi⟩⟩), rfl⟩
  · (repeat first|refine zG ?_|(refine LS.nilO ?_;intro nq hnq hltq;try refine zU ?_)|(refine MS.new ?_;intro bq hbq hbqf;try refine zU ?_)|(refine MS.nil ?_;intro nq hnq hltq;have hlq:=hltq _ _ (Hp.get_eq _ _ _);clear hltq;try refine zU ?_)|(refine LS.nilQ ?_;try with_reducible intro nq hnq;try refine zU ?_))
    refine RS.call rfl ((FnS.args (by rw [tb_false (show ¬False from id)]) (impl_unless False _ _)).mono ?_)
    rintro r H n4 hn4 ⟨rfl, rfl⟩
    (repeat first|refine zG ?_|(refine LS.nilO ?_;intro nq hnq hltq;try refine zU ?_)|(refine MS.new ?_;intro bq hbq hbqf;try refine zU ?_)|(refine MS.nil ?_;intro nq hnq hltq;have hlq:=hltq _ _ (Hp.get_eq _ _ _);clear hltq;try refine zU ?_)|(refine LS.nilQ ?_;try with_reducible intro nq hnq;try refine zU ?_))
    exact ⟨_, H, rfl, by exact zD, congrArg i64 (cd_iff ⟨fun q => q.elim, fun q => h1 q.1⟩), rfl⟩

end Go.Proofs.YtideblodkkgodaaGreat
