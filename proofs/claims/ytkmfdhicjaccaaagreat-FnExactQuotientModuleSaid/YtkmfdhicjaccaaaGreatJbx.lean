/- Whether a list is intact. -/
import Derived.Test.YtkmfdhicjaccaaaGreatJbw
set_option linter.unusedSectionVars false
set_option linter.unusedVariables false
set_option linter.unusedSimpArgs false

namespace Go.V

set_option linter.unusedSimpArgs false

set_option linter.unusedVariables false

/-- The vectors of a copied list and of the room behind. -/
def tvI (f : Nat → Int) (len i x : Nat) : Int := if i * 8 + x < 8 * len then f (i * 8 + x) else if (i * 8 + x) % 8 = 0 then 201 else 0

theorem VL.tv {H : Hp} {b len : Nat} {f : Nat → Int} {t : TypeId} (hb : H.get b = some ⟨(len + rmb len) * 8, tvC f len, t⟩) : VL H (.slc b 0 len (len + rmb len)) len (fun i x => f (8 * i + x)) b :=
  ⟨0, len + rmb len, _, rfl, hb, by (try dsimp only); omega, by omega, fun i x hi hx => by
    show SV.int .u8 (if 0 + (i * 8 + x) < 8 * len then f (0 + (i * 8 + x)) else _) = _
    rw [if_pos (by omega), show 0 + (i * 8 + x) = 8 * i + x by omega]⟩

theorem VL.tvr {H : Hp} {b len : Nat} {f : Nat → Int} {t : TypeId} (hb : H.get b = some ⟨(len + rmb len) * 8, tvC f len, t⟩) : VL H (.slc b 0 (len + rmb len) (len + rmb len)) (len + rmb len) (tvI f len) b :=
  ⟨0, len + rmb len, _, rfl, hb, by (try dsimp only); omega, by omega, fun i x hi hx => by
    show SV.int .u8 (if 0 + (i * 8 + x) < 8 * len then f (0 + (i * 8 + x)) else if (0 + (i * 8 + x)) % 8 = 0 then 201 else 0) = _
    rw [Nat.zero_add]; rfl⟩

theorem qmV_is (h : HT) (d : Int) (t : Nat → Int) (L : Nat → Nat → Int) (k : Nat) : ∃ d' t', qmV h d t L k = modC d' t' := by
  unfold qmV
  split
  · exact ⟨_, _, rfl⟩
  · exact ⟨_, _, rfl⟩

end Go.V

namespace Go.Proofs.YtkmfdhicjaccaaaGreat

open Go.V

variable [BW]

set_option linter.unusedSimpArgs false

set_option linter.unusedVariables false

set_option maxHeartbeats 4000000

/-- laws.intactVectorS -/
def ir12 : Cd := (.seq (.reg [⟨some 4,none,.mov (.c (.bool false))⟩]) (.seq (.reg [⟨some 6,none,.mov (.t 1)⟩,⟨some 7,none,.len (.t 6)⟩,⟨some 8,none,.mov (.t 1)⟩,⟨some 9,none,.len (.t 8)⟩,⟨some 10,none,.call 27 [(.t 9)]⟩,⟨some 11,none,.bin .add (.t 7) (.t 10)⟩,⟨some 5,none,.mov (.t 11)⟩]) (.seq (.drw true [12] [⟨some 12,none,.mov (.t 0)⟩,⟨some 13,none,.len (.t 12)⟩,⟨some 14,none,.mov (.t 1)⟩,⟨some 15,none,.len (.t 14)⟩,⟨some 16,none,.bin .eql (.t 13) (.t 15)⟩,⟨some 17,none,.mov (.t 16)⟩,⟨some 18,(some (17,true)),.mov (.t 0)⟩,⟨some 19,(some (17,true)),.mov (.t 5)⟩,⟨some 20,(some (17,true)),.sls 8 (.t 18) none (some (.t 19)) none⟩,⟨some 21,(some (17,true)),.mov (.t 1)⟩,⟨some 22,(some (17,true)),.mov (.t 5)⟩,⟨some 23,(some (17,true)),.sls 8 (.t 21) none (some (.t 22)) none⟩,⟨some 24,(some (17,true)),.call 15 [(.t 20),(.t 23)]⟩,⟨some 25,none,.pick (.t 17) (.t 24) (.c (.bool false))⟩,⟨some 4,none,.mov (.t 25)⟩]) .ret)))

set_option maxRecDepth 100000 in
theorem tr12 : trFn Tryz.prog Tryz.f12 = some (26, ir12, [.tmp 4]) := by kernel_rfl

theorem laws_intactVectorS (f : Nat → Int) (len b b' : Nat) (H : Hp) (n : Nat) (hl : len ≤ 1000000) (hb : H.get b = some ⟨(len + rmb len) * 8, tvC f len, 31⟩) (hb' : H.get b' = some ⟨(len + rmb len) * 8, tvC f len, 31⟩) :
    FnS Tryz.prog 12 [.s (.slc b 0 len (len + rmb len)), .s (.slc b' 0 len (len + rmb len))] H n (fun r H' _ => r = bl true ∧ H' = H) := by
  have hrm := rmb_le len
  refine FnS.of_body Tryz.func12 tr12 (by simp) (fun hf => ?_)
  dsimp only [argEnv]
  unfold ir12
  have h1 := getlt hf hb
  have h2 := getlt hf hb'
  (repeat first|refine zG ?_|(refine LS.nilO ?_;intro nq hnq hltq;try refine zU ?_)|(refine MS.new ?_;intro bq hbq hbqf;try refine zU ?_)|(refine MS.nil ?_;intro nq hnq hltq;have hlq:=hltq _ _ (Hp.get_eq _ _ _);clear hltq;try refine zU ?_)|(refine LS.nilQ ?_;try with_reducible intro nq hnq;try refine zU ?_))
  refine RS.call rfl ((laws_roomBehind len _ _ (by omega)).mono ?_)
  rintro r H n2 hn2 ⟨rfl, rfl⟩
  (repeat first|refine zG ?_|(refine LS.nilO ?_;intro nq hnq hltq;try refine zU ?_)|(refine MS.new ?_;intro bq hbq hbqf;try refine zU ?_)|(refine MS.nil ?_;intro nq hnq hltq;have hlq:=hltq _ _ (Hp.get_eq _ _ _);clear hltq;try refine zU ?_)|(refine LS.nilQ ?_;try with_reducible intro nq hnq;try refine zU ?_))
  refine RS.sp (t := 17) rfl (fun h3 => ?_) (fun h3 => ?_) <;> (try simp only [tb_eq, tb_eqF, decide_eq_true_eq, decide_eq_false_iff_not, beq_iff_eq, bne_iff_ne, ne_eq, Decidable.not_not, beq_eq_false_iff_ne, bne_eq_false_iff_eq, Bool.not_eq_true', Bool.not_eq_false', Bool.not_eq_eq_eq_not, Bool.not_true, Bool.not_false] at h3)
  · (repeat first|refine zG ?_|(refine LS.nilO ?_;intro nq hnq hltq;try refine zU ?_)|(refine MS.new ?_;intro bq hbq hbqf;try refine zU ?_)|(refine MS.nil ?_;intro nq hnq hltq;have hlq:=hltq _ _ (Hp.get_eq _ _ _);clear hltq;try refine zU ?_)|(refine LS.nilQ ?_;try with_reducible intro nq hnq;try refine zU ?_))
    refine RS.slsTo (j := len + rmb len) (by exact rfl) (by exact rfl) (by omega) (Nat.le_refl _) ?_
    (repeat first|refine zG ?_|(refine LS.nilO ?_;intro nq hnq hltq;try refine zU ?_)|(refine MS.new ?_;intro bq hbq hbqf;try refine zU ?_)|(refine MS.nil ?_;intro nq hnq hltq;have hlq:=hltq _ _ (Hp.get_eq _ _ _);clear hltq;try refine zU ?_)|(refine LS.nilQ ?_;try with_reducible intro nq hnq;try refine zU ?_))
    refine RS.slsTo (j := len + rmb len) (by exact rfl) (by exact rfl) (by omega) (Nat.le_refl _) ?_
    (repeat first|refine zG ?_|(refine LS.nilO ?_;intro nq hnq hltq;try refine zU ?_)|(refine MS.new ?_;intro bq hbq hbqf;try refine zU ?_)|(refine MS.nil ?_;intro nq hnq hltq;have hlq:=hltq _ _ (Hp.get_eq _ _ _);clear hltq;try refine zU ?_)|(refine LS.nilQ ?_;try with_reducible intro nq hnq;try refine zU ?_))
    refine RS.call rfl ((laws_eqVectorS (len + rmb len) b b' (tvI f len) (tvI f len) _ _ _ _ (by omega) (VL.tvr hb) (VL.tvr hb') (fun _ _ _ _ => rfl)).mono ?_)
    rintro r H n3 hn3 ⟨rfl, rfl⟩
    (repeat first|refine zG ?_|(refine LS.nilO ?_;intro nq hnq hltq;try refine zU ?_)|(refine MS.new ?_;intro bq hbq hbqf;try refine zU ?_)|(refine MS.nil ?_;intro nq hnq hltq;have hlq:=hltq _ _ (Hp.get_eq _ _ _);clear hltq;try refine zU ?_)|(refine LS.nilQ ?_;try with_reducible intro nq hnq;try refine zU ?_))
    exact ⟨_, H, rfl, by exact zD, rfl, rfl⟩
  · exact absurd trivial h3

end Go.Proofs.YtkmfdhicjaccaaaGreat
