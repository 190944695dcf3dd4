/- Whether vectors are of an algebra, and the code of that. -/
import Derived.Test.YtdellpnmbgjofaaC58
namespace Go.V
set_option linter.unusedSimpArgs false
set_option linter.unusedVariables false
theorem cdI {Q R : Prop} (h : Q ↔ R) : cd Q = cd R := by unfold cd; rw [tb_iff h]
end Go.V
namespace Go.Proofs.Ytdellpnmbgjofaa
open Go.V
set_option linter.unusedSimpArgs false
set_option linter.unusedVariables false
set_option maxHeartbeats 4000000

/-- (*impl.Algebra).has$1 -/
def ir48 : Cd := (.seq (.reg [⟨some 2,none,.box 27 (.t 0)⟩,⟨some 3,none,.mov (.c (.bool false))⟩]) (.seq (.drw true [9] [⟨some 4,none,.ld none (.t 1)⟩,⟨some 5,none,.ck (.t 4)⟩,⟨some 6,none,.fa 0 (.t 5)⟩,⟨some 7,none,.ld none (.t 6)⟩,⟨some 8,none,.ld none (.t 1)⟩,⟨some 9,none,.ck (.t 8)⟩,⟨some 10,none,.fa 1 (.t 9)⟩,⟨some 11,none,.ld none (.t 10)⟩,⟨some 12,none,.ld (some 8) (.t 2)⟩,⟨some 13,none,.call 49 [(.t 7),(.t 11),(.t 12)]⟩,⟨some 14,none,.un .not (.t 13)⟩,⟨some 3,none,.mov (.t 14)⟩]) .ret))
set_option maxRecDepth 100000 in
theorem tr48 : trFn Try.prog Try.f48 = some (15, ir48, [.tmp 3]) := by kernel_rfl

theorem Algebra_has_1 (p n' : Int) (b nb : Nat) (w : Nat → Int) (K Kb : Blk) (H : Hp) (n : Nat) (hb : H.get b = some K) (hsz : K.size = 522) (h0 : K.c 0 = .int .i64 p) (h1 : K.c 1 = .int .i64 n') (hw : isBy 8 w)
    (gb : H.get nb = some Kb) (sb : Kb.size = 1) (cb : Kb.c 0 = .ptr b 0) :
    FnS Try.prog 48 [.arr 8 (bys w), ptr nb 0] H n (fun r H' _ => r = bl (tb (¬(sz p n' ∧ isVec p n' w))) ∧ H' = H) := by
  have h1' : K.c (0 + 1) = .int .i64 n' := h1
  refine FnS.of_body Try.func48 tr48 (by simp) (fun hf => ?_)
  dsimp only [argEnv]
  unfold ir48
  have hbn := getlt hf hb
  have hbn2 := getlt hf gb
  (repeat first|refine zG ?_|(refine LS.nilO ?_;intro nq hnq hltq;try refine zU ?_)|(refine MS.new ?_;intro bq hbq hbqf;try refine zU ?_)|(refine MS.nil ?_;intro nq hnq hltq;have hlq:=hltq _ _ (Hp.get_eq _ _ _);clear hltq;try refine zU ?_)|(refine LS.nilQ ?_;try with_reducible intro nq hnq;try refine zU ?_))
  refine RS.call rfl ((impl_IsVector p n' w _ _ hw).mono ?_)
  rintro r H' n2 hn2 ⟨rfl, rfl⟩
  (repeat first|refine zG ?_|(refine LS.nilO ?_;intro nq hnq hltq;try refine zU ?_)|(refine MS.new ?_;intro bq hbq hbqf;try refine zU ?_)|(refine MS.nil ?_;intro nq hnq hltq;have hlq:=hltq _ _ (Hp.get_eq _ _ _);clear hltq;try refine zU ?_)|(refine LS.nilQ ?_;try with_reducible intro nq hnq;try refine zU ?_))
  exact ⟨_, H, rfl, by exact zD, by rw [tb_not], rfl⟩

/-- (*impl.Algebra).has -/
def ir32 : Cd := (.seq (.reg [⟨some 2,none,.box 67 (.t 0)⟩,⟨some 4,none,.mov (.c (.bool false))⟩]) (.seq (.reg [⟨some 5,none,.mov (.t 1)⟩,⟨some 6,none,.mkf 48 [] [(.t 2)]⟩,⟨some 7,none,.call 47 [(.t 5),(.t 6)]⟩,⟨some 8,none,.un .not (.t 7)⟩,⟨some 4,none,.mov (.t 8)⟩]) .ret))
set_option maxRecDepth 100000 in
theorem tr32 : trFn Try.prog Try.f32 = some (9, ir32, [.tmp 4]) := by kernel_rfl

/-- The vectors of a list are shaped. -/
theorem Algebra_has (p n' : Int) (b : Nat) (v : SV) (len : Nat) (hl : len ≤ 1000) (w : Nat → Int) (K : Blk) (H : Hp) (n : Nat) (hb : H.get b = some K) (hsz : K.size = 522) (h0 : K.c 0 = .int .i64 p) (h1 : K.c 1 = .int .i64 n') (hv : lst H v len w) (hw : isBy (8 * len) w) :
    FnS Try.prog 32 [ptr b 0, .s v] H n (fun r H' _ => r = bl (tb (∀ i, i < len → sz p n' ∧ isVec p n' (fun x => w (i * 8 + x)))) ∧ H' = H) := by
  refine FnS.of_body Try.func32 tr32 (by simp) (fun hf => ?_)
  dsimp only [argEnv]
  unfold ir32
  have hbn := getlt hf hb
  have hv' : lst ((n, ⟨1, fun _ => .ptr b 0, 67⟩) :: H) v len w := by
    rcases hv with h1 | ⟨b2, o, c, K2, h1, h2, h3⟩
    · exact .inl h1
    · have := getlt hf h2
      exact .inr ⟨b2, o, c, K2, h1, by rw [Hp.get_ne _ _ (by omega)]; exact h2, h3⟩
  (repeat first|refine zG ?_|(refine LS.nilO ?_;intro nq hnq hltq;try refine zU ?_)|(refine MS.new ?_;intro bq hbq hbqf;try refine zU ?_)|(refine MS.nil ?_;intro nq hnq hltq;have hlq:=hltq _ _ (Hp.get_eq _ _ _);clear hltq;try refine zU ?_)|(refine LS.nilQ ?_;try with_reducible intro nq hnq;try refine zU ?_))
  refine RS.call rfl ((slices_ContainsFunc (fun i => ¬(sz p n' ∧ isVec p n' (fun x => w (i * 8 + x)))) 48 [.ptr n 0] v len hl w _ _ hv' (fun i n2 hi hn' => Algebra_has_1 p n' b n (fun x => w (i * 8 + x)) K _ _ _ (by exact zH) hsz h0 h1 (fun x hx => hw _ (by omega)) (by exact zH) rfl rfl)).mono ?_)
  rintro r H' n2 hn2 ⟨rfl, rfl⟩
  (repeat first|refine zG ?_|(refine LS.nilO ?_;intro nq hnq hltq;try refine zU ?_)|(refine MS.new ?_;intro bq hbq hbqf;try refine zU ?_)|(refine MS.nil ?_;intro nq hnq hltq;have hlq:=hltq _ _ (Hp.get_eq _ _ _);clear hltq;try refine zU ?_)|(refine LS.nilQ ?_;try with_reducible intro nq hnq;try refine zU ?_))
  refine ⟨_, H, rfl, by exact zD, ?_, rfl⟩
  rw [tb_not]
  exact congrArg bl (tb_iff ⟨fun q i hi => Classical.byContradiction fun h1 => q ⟨i, hi, h1⟩, fun q ⟨i, hi, h1⟩ => h1 (q i hi)⟩)

/-- (*impl.Algebra).code -/
def ir14 : Cd := (.seq (.reg [⟨some 4,none,.mov (.c (.int .i64 0))⟩]) (.seq (.reg [⟨some 5,none,.mov (.t 0)⟩,⟨some 6,none,.ck (.t 5)⟩,⟨some 7,none,.ld (some 522) (.t 6)⟩,⟨some 8,none,.call 31 [(.t 7)]⟩,⟨some 9,none,.mov (.t 8)⟩,⟨some 10,(some (9,true)),.mov (.t 0)⟩,⟨some 11,(some (9,true)),.mov (.t 1)⟩,⟨some 12,(some (9,true)),.call 32 [(.t 10),(.t 11)]⟩,⟨some 13,none,.pick (.t 9) (.t 12) (.c (.bool false))⟩,⟨some 14,none,.call 30 [(.t 13),(.c (.int .i64 1))]⟩,⟨some 4,none,.mov (.t 14)⟩]) .ret))
set_option maxRecDepth 100000 in
theorem tr14 : trFn Try.prog Try.f14 = some (15, ir14, [.tmp 4]) := by kernel_rfl

theorem Algebra_code (p n' : Int) (u m : Nat → Int) (b : Nat) (v : SV) (len : Nat) (hl : len ≤ 1000) (w : Nat → Int) (K : Blk) (H : Hp) (n : Nat) (hb : H.get b = some K) (hsz : K.size = 522) (h0 : K.c 0 = .int .i64 p) (h1 : K.c 1 = .int .i64 n')
    (hU : ∀ q, q < 8 → K.c (2 + q) = .int .u8 (u q)) (hK : ∀ q, q < 512 → K.c (10 + q) = .int .u8 (m q)) (hu : isBy 8 u) (hm : isBy 512 m) (hv : lst H v len w) (hw : isBy (8 * len) w) :
    FnS Try.prog 14 [ptr b 0, .s v] H n (fun r H' _ => r = i64 (cd (isAlg p n' u m ∧ ∀ i, i < len → isVec p n' (fun x => w (i * 8 + x)))) ∧ H' = H) := by
  refine FnS.of_body Try.func14 tr14 (by simp) (fun hf => ?_)
  dsimp only [argEnv]
  unfold ir14
  have hbn := getlt hf hb
  (repeat first|refine zG ?_|(refine LS.nilO ?_;intro nq hnq hltq;try refine zU ?_)|(refine MS.new ?_;intro bq hbq hbqf;try refine zU ?_)|(refine MS.nil ?_;intro nq hnq hltq;have hlq:=hltq _ _ (Hp.get_eq _ _ _);clear hltq;try refine zU ?_)|(refine LS.nilQ ?_;try with_reducible intro nq hnq;try refine zU ?_))
  refine RS.call rfl ((FnS.args (concs_cons (conc_arr (fun q hq => rfl)) rfl) (impl_IsAlgebra p n' u m K.c _ _ h0 h1 hU hK hu hm)).mono ?_)
  rintro r H n2 hn2 ⟨rfl, rfl⟩
  (repeat first|refine zG ?_|(refine LS.nilO ?_;intro nq hnq hltq;try refine zU ?_)|(refine MS.new ?_;intro bq hbq hbqf;try refine zU ?_)|(refine MS.nil ?_;intro nq hnq hltq;have hlq:=hltq _ _ (Hp.get_eq _ _ _);clear hltq;try refine zU ?_)|(refine LS.nilQ ?_;try with_reducible intro nq hnq;try refine zU ?_))
  refine RS.sp (t := 9) rfl (fun h3 => ?_) (fun h3 => ?_) <;> (try simp only [tb_eq, tb_eqF, decide_eq_true_eq, decide_eq_false_iff_not, beq_iff_eq, bne_iff_ne, ne_eq, Decidable.not_not, beq_eq_false_iff_ne, bne_eq_false_iff_eq, Bool.not_eq_true', Bool.not_eq_false', Bool.not_eq_eq_eq_not, Bool.not_true, Bool.not_false] at h3)
  · (repeat first|refine zG ?_|(refine LS.nilO ?_;intro nq hnq hltq;try refine zU ?_)|(refine MS.new ?_;intro bq hbq hbqf;try refine zU ?_)|(refine MS.nil ?_;intro nq hnq hltq;have hlq:=hltq _ _ (Hp.get_eq _ _ _);clear hltq;try refine zU ?_)|(refine LS.nilQ ?_;try with_reducible intro nq hnq;try refine zU ?_))
    refine RS.call rfl ((Algebra_has p n' b v len hl w K _ _ (by exact zH) hsz h0 h1 hv hw).mono ?_)
    rintro r H n3 hn3 ⟨rfl, rfl⟩
    (repeat first|refine zG ?_|(refine LS.nilO ?_;intro nq hnq hltq;try refine zU ?_)|(refine MS.new ?_;intro bq hbq hbqf;try refine zU ?_)|(refine MS.nil ?_;intro nq hnq hltq;have hlq:=hltq _ _ (Hp.get_eq _ _ _);clear hltq;try refine zU ?_)|(refine LS.nilQ ?_;try with_reducible intro nq hnq;try refine zU ?_))
    refine RS.call rfl ((impl_unless _ _ _).mono ?_)
    rintro r H n4 hn4 ⟨rfl, rfl⟩
    (repeat first|refine zG ?_|(refine LS.nilO ?_;intro nq hnq hltq;try refine zU ?_)|(refine MS.new ?_;intro bq hbq hbqf;try refine zU ?_)|(refine MS.nil ?_;intro nq hnq hltq;have hlq:=hltq _ _ (Hp.get_eq _ _ _);clear hltq;try refine zU ?_)|(refine LS.nilQ ?_;try with_reducible intro nq hnq;try refine zU ?_))
    exact ⟨_, H, rfl, by exact zD, congrArg i64 (cdI ⟨fun q => ⟨h3, fun i hi => (q i hi).2⟩, fun q i hi => ⟨h3.1.1, q.2 i hi⟩⟩), rfl⟩
  · (repeat first|refine zG ?_|(refine LS.nilO ?_;intro nq hnq hltq;try refine zU ?_)|(refine MS.new ?_;intro bq hbq hbqf;try refine zU ?_)|(refine MS.nil ?_;intro nq hnq hltq;have hlq:=hltq _ _ (Hp.get_eq _ _ _);clear hltq;try refine zU ?_)|(refine LS.nilQ ?_;try with_reducible intro nq hnq;try refine zU ?_))
    refine RS.call rfl ((FnS.args (by rw [tb_false (show ¬False from id)]) (impl_unless False _ _)).mono ?_)
    rintro r H n4 hn4 ⟨rfl, rfl⟩
    (repeat first|refine zG ?_|(refine LS.nilO ?_;intro nq hnq hltq;try refine zU ?_)|(refine MS.new ?_;intro bq hbq hbqf;try refine zU ?_)|(refine MS.nil ?_;intro nq hnq hltq;have hlq:=hltq _ _ (Hp.get_eq _ _ _);clear hltq;try refine zU ?_)|(refine LS.nilQ ?_;try with_reducible intro nq hnq;try refine zU ?_))
    exact ⟨_, H, rfl, by exact zD, congrArg i64 (cdI ⟨fun q => q.elim, fun q => h3 q.1⟩), rfl⟩

end Go.Proofs.Ytdellpnmbgjofaa
