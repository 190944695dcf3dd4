/- A list from a law's argument, and whether it is intact. -/
import Derived.Test.YtideblodkkgodaaGreatJbq
import Derived.Test.YtideblodkkgodaaGreatJbj
set_option linter.unusedSectionVars false
set_option linter.unusedVariables false
set_option linter.unusedSimpArgs false

namespace Go.V

variable [BW]

set_option linter.unusedSimpArgs false

set_option linter.unusedVariables false

theorem zs8 {y : Nat} (hy : y < 8) : Zs.c [(8, SV.int IntKind.u8 0)] y = .int .u8 0 := by
  rcases (show y = 0 ∨ y = 1 ∨ y = 2 ∨ y = 3 ∨ y = 4 ∨ y = 5 ∨ y = 6 ∨ y = 7 by omega) with rfl | rfl | rfl | rfl | rfl | rfl | rfl | rfl <;> rfl

section

variable {P : Program} {N mm : Nat} {e : Env} {H : Hp} {n : Nat} {l : List Ins} {d : Option Nat} {D : Md}

theorem RS.lenRA {x : X} {m z : Nat} {sv : SV} {len : Nat} {f : Nat → Int} (hx : x.ev e = some (.s sv)) (hR : RA m z sv len f) (h : LS P N mm D l (putD d (.s (.int .i64 (len : Nat))) e) H n) : LS P N mm D (⟨d, none, .len x⟩ :: l) e H n := by
  rcases hR with ⟨rfl, rfl⟩ | ⟨b, o, cap, rfl, _⟩
  · exact RS.len0 hx h
  · exact RS.len hx h

end

end Go.V

namespace Go.Proofs.YtideblodkkgodaaGreat

open Go.V

variable [BW]

set_option linter.unusedSimpArgs false

set_option linter.unusedVariables false

set_option maxHeartbeats 4000000

/-- laws.toVectorS -/
def ir7 : Cd := (.seq (.reg [⟨some 4,none,.mov (.c .nils)⟩]) (.seq (.seq (.reg [⟨some 8,none,.mov (.t 1)⟩,⟨some 9,none,.mov (.t 8)⟩,⟨some 10,(some (9,true)),.mov (.t 0)⟩,⟨some 11,(some (9,true)),.len (.t 10)⟩,⟨some 12,(some (9,true)),.bin .eql (.t 11) (.c (.int .i64 0))⟩,⟨some 13,none,.pick (.t 9) (.t 12) (.c (.bool false))⟩]) (.cond (.t 13) (.seq (.reg [⟨some 4,none,.mov (.c .nils)⟩]) .ret) .skip)) (.seq (.reg [⟨some 14,none,.mov (.t 0)⟩,⟨some 15,none,.len (.t 14)⟩,⟨some 16,none,.mov (.t 0)⟩,⟨some 17,none,.len (.t 16)⟩,⟨some 18,none,.call 25 [(.t 17)]⟩,⟨some 19,none,.bin .add (.t 15) (.t 18)⟩,⟨some 20,none,.mks 32 8 8 [(8,(.int .u8 0))] (.t 19) (.t 19)⟩,⟨some 5,none,.mov (.t 20)⟩]) (.seq (.seq (.reg [⟨some 6,none,.mov (.c (.int .i64 0))⟩]) (.block 0 (.loop (.seq (.seq (.reg [⟨some 21,none,.mov (.t 6)⟩,⟨some 22,none,.mov (.t 0)⟩,⟨some 23,none,.len (.t 22)⟩,⟨some 24,none,.bin .lss (.t 21) (.t 23)⟩]) (.cond (.t 24) .skip (.exit 0))) (.seq (.block 1 (.reg [⟨some 27,none,.mov (.t 5)⟩,⟨some 28,none,.mov (.t 6)⟩,⟨some 29,none,.mov (.t 0)⟩,⟨some 30,none,.mov (.t 6)⟩,⟨some 31,none,.isl 8 (.t 29) (.t 30)⟩,⟨some 32,none,.ld (some 8) (.t 31)⟩,⟨some 33,none,.call 22 [(.t 32)]⟩,⟨some 34,none,.isl 8 (.t 27) (.t 28)⟩,⟨none,none,.st 8 (.t 34) (.t 33)⟩])) (.reg [⟨some 25,none,.mov (.t 6)⟩,⟨some 26,none,.bin .add (.t 25) (.c (.int .i64 1))⟩,⟨some 6,none,.mov (.t 26)⟩])))))) (.seq (.seq (.reg [⟨some 35,none,.mov (.t 0)⟩,⟨some 36,none,.len (.t 35)⟩,⟨some 7,none,.mov (.t 36)⟩]) (.block 2 (.loop (.seq (.seq (.reg [⟨some 37,none,.mov (.t 7)⟩,⟨some 38,none,.mov (.t 5)⟩,⟨some 39,none,.len (.t 38)⟩,⟨some 40,none,.bin .lss (.t 37) (.t 39)⟩]) (.cond (.t 40) .skip (.exit 2))) (.seq (.block 3 (.reg [⟨some 43,none,.mov (.t 5)⟩,⟨some 44,none,.mov (.t 7)⟩,⟨some 45,none,.build 8 [(8,(.int .u8 0))] [(0,1,(.c (.int .u8 201)))]⟩,⟨some 46,none,.isl 8 (.t 43) (.t 44)⟩,⟨none,none,.st 8 (.t 46) (.t 45)⟩])) (.reg [⟨some 41,none,.mov (.t 7)⟩,⟨some 42,none,.bin .add (.t 41) (.c (.int .i64 1))⟩,⟨some 7,none,.mov (.t 42)⟩])))))) (.seq (.reg [⟨some 47,none,.mov (.t 5)⟩,⟨some 48,none,.mov (.t 0)⟩,⟨some 49,none,.len (.t 48)⟩,⟨some 50,none,.sls 8 (.t 47) none (some (.t 49)) none⟩,⟨some 4,none,.mov (.t 50)⟩]) .ret))))))

set_option maxRecDepth 100000 in
theorem tr7 : trFn Tryz.prog Tryz.f7 = some (51, ir7, [.tmp 4]) := by kernel_rfl

theorem laws_toVectorS (m : Nat) (bare : Bool) (sv : SV) (len : Nat) (f : Nat → Int) (H : Hp) (n : Nat) (hl : len ≤ 1000000) (hmn : m ≤ n) (hm : ∀ x, x < m → H.get x = none) (hR : RA m 8 sv len f) :
    FnS Tryz.prog 7 [.s sv, bl bare] H n (fun r H' n' => (bare = true ∧ len = 0 ∧ r = .s .nils ∧ H' = H) ∨ (¬(bare = true ∧ len = 0) ∧ ∃ b', n ≤ b' ∧ b' < n' ∧ r = .s (.slc b' 0 len (len + rmb len)) ∧ H' = (b', ⟨(len + rmb len) * 8, tvC f len, 32⟩) :: H)) := by
  have hrm := rmb_le len
  refine FnS.of_body Tryz.func7 tr7 (by simp) (fun hf => ?_)
  dsimp only [argEnv]
  unfold ir7
  (refine zG ?_)
  refine RS.sp (t := 9) rfl (fun h1 => ?_) (fun h1 => ?_) <;> (try simp only [tb_eq, tb_eqF, decide_eq_true_eq, decide_eq_false_iff_not, beq_iff_eq, bne_iff_ne, ne_eq, Decidable.not_not, beq_eq_false_iff_ne, bne_eq_false_iff_eq, Bool.not_eq_true', Bool.not_eq_false', Bool.not_eq_eq_eq_not, Bool.not_true, Bool.not_false] at h1)
  · (refine zG ?_)
    refine RS.lenRA (by exact rfl) hR ?_
    (refine zG ?_)
    refine zI ?_ ?_<;>intro h2
    · (refine zG ?_)
      exact ⟨_, H, rfl, by exact zD, .inl ⟨h1, by omega, rfl, rfl⟩⟩
    (refine zG ?_)
    refine RS.lenRA (by exact rfl) hR ?_
    (refine zG ?_)
    refine RS.lenRA (by exact rfl) hR ?_
    (repeat first|refine zG ?_|(refine LS.nilO ?_;intro nq hnq hltq;try refine zU ?_)|(refine MS.new ?_;intro bq hbq hbqf;try refine zU ?_)|(refine MS.nil ?_;intro nq hnq hltq;have hlq:=hltq _ _ (Hp.get_eq _ _ _);clear hltq;try refine zU ?_)|(refine LS.nilQ ?_;try with_reducible intro nq hnq;try refine zU ?_))
    refine RS.call rfl ((laws_roomBehind len _ _ (by omega)).mono ?_)
    rintro r H n2 hn2 ⟨rfl, rfl⟩
    (refine zG ?_)
    refine RS.mks (len := len + rmb len) (cap := len + rmb len) (by exact rfl) (by exact rfl) (by omega) (by omega) (Nat.le_refl _) (by omega) (by omega) ?_
    (refine zG ?_)
    refine CS.iter len (fun i => [(6, i64 (i : Nat)), (0, .s sv), (5, .s (.slc n2 0 (len + rmb len) (len + rmb len)))]) (fun i => (n2, ⟨(len + rmb len) * 8, tvP f i, 32⟩) :: H) (fun _ => True) (by (repeat first | exact trivial | refine And.intro rfl ?_)) (Drops.keepc rfl rfl (fun q hq => ?_) (Drops.refl _ _)) trivial ?_
    · show Zs.c [(8, SV.int .u8 0)] (q % 8) = tvP f 0 q
      unfold tvP
      rw [zs8 (by omega), if_neg (show ¬q < 8 * 0 by omega)]
    intro i n3 hi hn3 _
    (refine zG ?_)
    refine RS.lenRA (by exact rfl) hR ?_
    (refine zG ?_)
    refine zI ?_ ?_<;>intro h3
    · have hi' : i < len := by omega
      obtain ⟨b, o, cap, rfl, hcap, hbm, hcell⟩ : ∃ b o cap, sv = .slc b o len cap ∧ len ≤ cap ∧ b < m ∧ ∀ i, i < 8 * len → BW.cell b (o + i) = some (.int .u8 (f i)) := by
        rcases hR with ⟨_, q⟩ | ⟨b, o, cap, q⟩
        · omega
        · exact ⟨b, o, cap, q⟩
      (refine zG ?_)
      refine RS.rdb (q := i * 8) (z' := 8 * len) (f := f) (by exact rfl) (by rw [Hp.get_ne _ _ (by omega)]; exact hm b hbm) hcell (by omega) ?_
      (repeat first|refine zG ?_|(refine LS.nilO ?_;intro nq hnq hltq;try refine zU ?_)|(refine MS.new ?_;intro bq hbq hbqf;try refine zU ?_)|(refine MS.nil ?_;intro nq hnq hltq;have hlq:=hltq _ _ (Hp.get_eq _ _ _);clear hltq;try refine zU ?_)|(refine LS.nilQ ?_;try with_reducible intro nq hnq;try refine zU ?_))
      refine RS.call rfl ((laws_toVector (fun x => f (i * 8 + x)) _ _).mono ?_)
      rintro r H' n4 hn4 ⟨rfl, rfl⟩
      (refine zG ?_)
      refine ⟨by omega, by (repeat first | exact trivial | refine And.intro rfl ?_), Drops.keepc rfl rfl (fun q hq => ?_) (Drops.refl _ _), trivial⟩
      (try simp only [Nat.zero_add])
      exact tvP_step f i q (fun y hy => by (try dsimp only); rw [Nat.mul_comm])
    obtain rfl : len = i := by omega
    (refine zG ?_)
    refine RS.lenRA (by exact rfl) hR ?_
    (refine zG ?_)
    refine CS.iter (rmb len) (fun j => [(7, i64 ((len + j : Nat) : Int)), (0, .s sv), (5, .s (.slc n2 0 (len + rmb len) (len + rmb len)))]) (fun j => (n2, ⟨(len + rmb len) * 8, tvQ f len (len + j), 32⟩) :: H) (fun _ => True) (by (repeat first | exact trivial | refine And.intro rfl ?_)) (Drops.keepc rfl rfl (fun q hq => ?_) (Drops.refl _ _)) trivial ?_
    · show tvP f len q = tvQ f len (len + 0) q
      unfold tvP tvQ
      refine congrArg (SV.int .u8) ?_
      by_cases e : q < 8 * len
      · rw [if_pos e, if_pos e]
      · rw [if_neg e, if_neg e, if_neg (show ¬q < 8 * (len + 0) by omega)]
    intro j n5 hj hn5 _
    (refine zG ?_)
    refine zI ?_ ?_<;>intro h4
    · have hj' : j < rmb len := by omega
      (refine zG ?_)
      refine ⟨by omega, by (repeat first | exact trivial | refine And.intro rfl ?_), Drops.keepc rfl rfl (fun q hq => ?_) (Drops.refl _ _), trivial⟩
      (try simp only [Nat.zero_add])
      exact tvQ_step f len (len + j) q (by omega) (fun y hy => by
        rcases (show y = 0 ∨ y = 1 ∨ y = 2 ∨ y = 3 ∨ y = 4 ∨ y = 5 ∨ y = 6 ∨ y = 7 by omega) with rfl | rfl | rfl | rfl | rfl | rfl | rfl | rfl <;> rfl)
    obtain rfl : j = rmb len := by omega
    (refine zG ?_)
    refine RS.lenRA (by exact rfl) hR ?_
    (repeat first|refine zG ?_|(refine LS.nilO ?_;intro nq hnq hltq;try refine zU ?_)|(refine MS.new ?_;intro bq hbq hbqf;try refine zU ?_)|(refine MS.nil ?_;intro nq hnq hltq;have hlq:=hltq _ _ (Hp.get_eq _ _ _);clear hltq;try refine zU ?_)|(refine LS.nilQ ?_;try with_reducible intro nq hnq;try refine zU ?_))
    refine RS.slsTo (j := len) (by exact rfl) (by exact rfl) rfl (by omega) ?_
    (refine zG ?_)
    refine ⟨_, (n2, ⟨(len + rmb len) * 8, tvC f len, 32⟩) :: H, rfl, Drops.keepc rfl rfl (fun q hq => ?_) (Drops.refl _ _), .inr ⟨fun q => h2 (by rw [q.2]; rfl), n2, by omega, by omega, rfl, rfl⟩⟩
    show tvQ f len (len + rmb len) q = tvC f len q
    unfold tvQ tvC
    refine congrArg (SV.int .u8) ?_
    by_cases e : q < 8 * len
    · rw [if_pos e, if_pos e]
    · rw [if_neg e, if_neg e, if_pos (show q < 8 * (len + rmb len) by (try dsimp only at hq); omega)]
  · skip
    (refine zG ?_)
    refine RS.lenRA (by exact rfl) hR ?_
    (refine zG ?_)
    refine RS.lenRA (by exact rfl) hR ?_
    (repeat first|refine zG ?_|(refine LS.nilO ?_;intro nq hnq hltq;try refine zU ?_)|(refine MS.new ?_;intro bq hbq hbqf;try refine zU ?_)|(refine MS.nil ?_;intro nq hnq hltq;have hlq:=hltq _ _ (Hp.get_eq _ _ _);clear hltq;try refine zU ?_)|(refine LS.nilQ ?_;try with_reducible intro nq hnq;try refine zU ?_))
    refine RS.call rfl ((laws_roomBehind len _ _ (by omega)).mono ?_)
    rintro r H n2 hn2 ⟨rfl, rfl⟩
    (refine zG ?_)
    refine RS.mks (len := len + rmb len) (cap := len + rmb len) (by exact rfl) (by exact rfl) (by omega) (by omega) (Nat.le_refl _) (by omega) (by omega) ?_
    (refine zG ?_)
    refine CS.iter len (fun i => [(6, i64 (i : Nat)), (0, .s sv), (5, .s (.slc n2 0 (len + rmb len) (len + rmb len)))]) (fun i => (n2, ⟨(len + rmb len) * 8, tvP f i, 32⟩) :: H) (fun _ => True) (by (repeat first | exact trivial | refine And.intro rfl ?_)) (Drops.keepc rfl rfl (fun q hq => ?_) (Drops.refl _ _)) trivial ?_
    · show Zs.c [(8, SV.int .u8 0)] (q % 8) = tvP f 0 q
      unfold tvP
      rw [zs8 (by omega), if_neg (show ¬q < 8 * 0 by omega)]
    intro i n3 hi hn3 _
    (refine zG ?_)
    refine RS.lenRA (by exact rfl) hR ?_
    (refine zG ?_)
    refine zI ?_ ?_<;>intro h3
    · have hi' : i < len := by omega
      obtain ⟨b, o, cap, rfl, hcap, hbm, hcell⟩ : ∃ b o cap, sv = .slc b o len cap ∧ len ≤ cap ∧ b < m ∧ ∀ i, i < 8 * len → BW.cell b (o + i) = some (.int .u8 (f i)) := by
        rcases hR with ⟨_, q⟩ | ⟨b, o, cap, q⟩
        · omega
        · exact ⟨b, o, cap, q⟩
      (refine zG ?_)
      refine RS.rdb (q := i * 8) (z' := 8 * len) (f := f) (by exact rfl) (by rw [Hp.get_ne _ _ (by omega)]; exact hm b hbm) hcell (by omega) ?_
      (repeat first|refine zG ?_|(refine LS.nilO ?_;intro nq hnq hltq;try refine zU ?_)|(refine MS.new ?_;intro bq hbq hbqf;try refine zU ?_)|(refine MS.nil ?_;intro nq hnq hltq;have hlq:=hltq _ _ (Hp.get_eq _ _ _);clear hltq;try refine zU ?_)|(refine LS.nilQ ?_;try with_reducible intro nq hnq;try refine zU ?_))
      refine RS.call rfl ((laws_toVector (fun x => f (i * 8 + x)) _ _).mono ?_)
      rintro r H' n4 hn4 ⟨rfl, rfl⟩
      (refine zG ?_)
      refine ⟨by omega, by (repeat first | exact trivial | refine And.intro rfl ?_), Drops.keepc rfl rfl (fun q hq => ?_) (Drops.refl _ _), trivial⟩
      (try simp only [Nat.zero_add])
      exact tvP_step f i q (fun y hy => by (try dsimp only); rw [Nat.mul_comm])
    obtain rfl : len = i := by omega
    (refine zG ?_)
    refine RS.lenRA (by exact rfl) hR ?_
    (refine zG ?_)
    refine CS.iter (rmb len) (fun j => [(7, i64 ((len + j : Nat) : Int)), (0, .s sv), (5, .s (.slc n2 0 (len + rmb len) (len + rmb len)))]) (fun j => (n2, ⟨(len + rmb len) * 8, tvQ f len (len + j), 32⟩) :: H) (fun _ => True) (by (repeat first | exact trivial | refine And.intro rfl ?_)) (Drops.keepc rfl rfl (fun q hq => ?_) (Drops.refl _ _)) trivial ?_
    · show tvP f len q = tvQ f len (len + 0) q
      unfold tvP tvQ
      refine congrArg (SV.int .u8) ?_
      by_cases e : q < 8 * len
      · rw [if_pos e, if_pos e]
      · rw [if_neg e, if_neg e, if_neg (show ¬q < 8 * (len + 0) by omega)]
    intro j n5 hj hn5 _
    (refine zG ?_)
    refine zI ?_ ?_<;>intro h4
    · have hj' : j < rmb len := by omega
      (refine zG ?_)
      refine ⟨by omega, by (repeat first | exact trivial | refine And.intro rfl ?_), Drops.keepc rfl rfl (fun q hq => ?_) (Drops.refl _ _), trivial⟩
      (try simp only [Nat.zero_add])
      exact tvQ_step f len (len + j) q (by omega) (fun y hy => by
        rcases (show y = 0 ∨ y = 1 ∨ y = 2 ∨ y = 3 ∨ y = 4 ∨ y = 5 ∨ y = 6 ∨ y = 7 by omega) with rfl | rfl | rfl | rfl | rfl | rfl | rfl | rfl <;> rfl)
    obtain rfl : j = rmb len := by omega
    (refine zG ?_)
    refine RS.lenRA (by exact rfl) hR ?_
    (repeat first|refine zG ?_|(refine LS.nilO ?_;intro nq hnq hltq;try refine zU ?_)|(refine MS.new ?_;intro bq hbq hbqf;try refine zU ?_)|(refine MS.nil ?_;intro nq hnq hltq;have hlq:=hltq _ _ (Hp.get_eq _ _ _);clear hltq;try refine zU ?_)|(refine LS.nilQ ?_;try with_reducible intro nq hnq;try refine zU ?_))
    refine RS.slsTo (j := len) (by exact rfl) (by exact rfl) rfl (by omega) ?_
    (refine zG ?_)
    refine ⟨_, (n2, ⟨(len + rmb len) * 8, tvC f len, 32⟩) :: H, rfl, Drops.keepc rfl rfl (fun q hq => ?_) (Drops.refl _ _), .inr ⟨(fun q => by rw [q.1] at h1; cases h1), n2, by omega, by omega, rfl, rfl⟩⟩
    show tvQ f len (len + rmb len) q = tvC f len q
    unfold tvQ tvC
    refine congrArg (SV.int .u8) ?_
    by_cases e : q < 8 * len
    · rw [if_pos e, if_pos e]
    · rw [if_neg e, if_neg e, if_pos (show q < 8 * (len + rmb len) by (try dsimp only at hq); omega)]

end Go.Proofs.YtideblodkkgodaaGreat

/- Whether a list is intact. -/

namespace Go.V

set_option linter.unusedSimpArgs false

set_option linter.unusedVariables false

/-- The vectors of a copied list and of the room behind. -/
def tvI (f : Nat → Int) (len i x : Nat) : Int := if i * 8 + x < 8 * len then f (i * 8 + x) else if (i * 8 + x) % 8 = 0 then 201 else 0

theorem VL.tv {H : Hp} {b len : Nat} {f : Nat → Int} {t : TypeId} (hb : H.get b = some ⟨(len + rmb len) * 8, tvC f len, t⟩) : VL H (.slc b 0 len (len + rmb len)) len (fun i x => f (8 * i + x)) b :=
  ⟨0, len + rmb len, _, rfl, hb, by (try dsimp only); omega, by omega, fun i x hi hx => by
    show SV.int .u8 (if 0 + (i * 8 + x) < 8 * len then f (0 + (i * 8 + x)) else _) = _
    rw [if_pos (by omega), show 0 + (i * 8 + x) = 8 * i + x by omega]⟩

theorem VL.tvr {H : Hp} {b len : Nat} {f : Nat → Int} {t : TypeId} (hb : H.get b = some ⟨(len + rmb len) * 8, tvC f len, t⟩) : VL H (.slc b 0 (len + rmb len) (len + rmb len)) (len + rmb len) (tvI f len) b :=
  ⟨0, len + rmb len, _, rfl, hb, by (try dsimp only); omega, by omega, fun i x hi hx => by
    show SV.int .u8 (if 0 + (i * 8 + x) < 8 * len then f (0 + (i * 8 + x)) else if (0 + (i * 8 + x)) % 8 = 0 then 201 else 0) = _
    rw [Nat.zero_add]; rfl⟩

end Go.V

namespace Go.Proofs.YtideblodkkgodaaGreat

open Go.V

variable [BW]

set_option linter.unusedSimpArgs false

set_option linter.unusedVariables false

set_option maxHeartbeats 4000000

/-- laws.intactVectorS -/
def ir10 : Cd := (.seq (.reg [⟨some 4,none,.mov (.c (.bool false))⟩]) (.seq (.reg [⟨some 6,none,.mov (.t 1)⟩,⟨some 7,none,.len (.t 6)⟩,⟨some 8,none,.mov (.t 1)⟩,⟨some 9,none,.len (.t 8)⟩,⟨some 10,none,.call 25 [(.t 9)]⟩,⟨some 11,none,.bin .add (.t 7) (.t 10)⟩,⟨some 5,none,.mov (.t 11)⟩]) (.seq (.drw true [12] [⟨some 12,none,.mov (.t 0)⟩,⟨some 13,none,.len (.t 12)⟩,⟨some 14,none,.mov (.t 1)⟩,⟨some 15,none,.len (.t 14)⟩,⟨some 16,none,.bin .eql (.t 13) (.t 15)⟩,⟨some 17,none,.mov (.t 16)⟩,⟨some 18,(some (17,true)),.mov (.t 0)⟩,⟨some 19,(some (17,true)),.mov (.t 5)⟩,⟨some 20,(some (17,true)),.sls 8 (.t 18) none (some (.t 19)) none⟩,⟨some 21,(some (17,true)),.mov (.t 1)⟩,⟨some 22,(some (17,true)),.mov (.t 5)⟩,⟨some 23,(some (17,true)),.sls 8 (.t 21) none (some (.t 22)) none⟩,⟨some 24,(some (17,true)),.call 9 [(.t 20),(.t 23)]⟩,⟨some 25,none,.pick (.t 17) (.t 24) (.c (.bool false))⟩,⟨some 4,none,.mov (.t 25)⟩]) .ret)))

set_option maxRecDepth 100000 in
theorem tr10 : trFn Tryz.prog Tryz.f10 = some (26, ir10, [.tmp 4]) := by kernel_rfl

theorem laws_intactVectorS (f : Nat → Int) (len b b' : Nat) (H : Hp) (n : Nat) (hl : len ≤ 1000000) (hb : H.get b = some ⟨(len + rmb len) * 8, tvC f len, 32⟩) (hb' : H.get b' = some ⟨(len + rmb len) * 8, tvC f len, 32⟩) :
    FnS Tryz.prog 10 [.s (.slc b 0 len (len + rmb len)), .s (.slc b' 0 len (len + rmb len))] H n (fun r H' _ => r = bl true ∧ H' = H) := by
  have hrm := rmb_le len
  refine FnS.of_body Tryz.func10 tr10 (by simp) (fun hf => ?_)
  dsimp only [argEnv]
  unfold ir10
  have h1 := getlt hf hb
  have h2 := getlt hf hb'
  (refine zG ?_)
  refine RS.call rfl ((laws_roomBehind len _ _ (by omega)).mono ?_)
  rintro r H n2 hn2 ⟨rfl, rfl⟩
  (refine zG ?_)
  refine RS.sp (t := 17) rfl (fun h3 => ?_) (fun h3 => ?_) <;> (try simp only [tb_eq, tb_eqF, decide_eq_true_eq, decide_eq_false_iff_not, beq_iff_eq, bne_iff_ne, ne_eq, Decidable.not_not, beq_eq_false_iff_ne, bne_eq_false_iff_eq, Bool.not_eq_true', Bool.not_eq_false', Bool.not_eq_eq_eq_not, Bool.not_true, Bool.not_false] at h3)
  · (refine zG ?_)
    refine RS.slsTo (j := len + rmb len) (by exact rfl) (by exact rfl) (by omega) (Nat.le_refl _) ?_
    (refine zG ?_)
    refine RS.slsTo (j := len + rmb len) (by exact rfl) (by exact rfl) (by omega) (Nat.le_refl _) ?_
    (repeat first|refine zG ?_|(refine LS.nilQ ?_;try with_reducible intro nq hnq;try refine zU ?_))
    refine RS.call rfl ((laws_eqVectorS (len + rmb len) b b' (tvI f len) (tvI f len) _ _ _ _ (by omega) (VL.tvr hb) (VL.tvr hb') (fun _ _ _ _ => rfl)).mono ?_)
    rintro r H n3 hn3 ⟨rfl, rfl⟩
    (refine zG ?_)
    exact ⟨_, H, rfl, by exact zD, rfl, rfl⟩
  · exact absurd trivial h3

end Go.Proofs.YtideblodkkgodaaGreat

/- Kernels of tables and the augmentation ideal, the reference's. -/

namespace Go.V

set_option linter.unusedSimpArgs false

set_option linter.unusedVariables false

/-- What the loop over the rows of f knows. -/
structure SolK (H0 : Hp) (n0 : Nat) (ty : TypeId) (p : Int) (f : Nat → Int) (n i m kk : Nat) (I S Kr : Nat → Nat → Int) (v9 v10 v11 : SV) (b9 b10 b11 : Nat) (H1 : Hp) (n1 : Nat) : Prop where
  src : SRC p f n I S m i
  kr : KR p f n S Kr m kk i
  l9 : VL H1 v9 m I b9
  l10 : VL H1 v10 m S b10
  l11 : VL H1 v11 kk Kr b11
  kki : kk ≤ i
  d1 : b9 ≠ b10
  d2 : b9 ≠ b11
  d3 : b10 ≠ b11
  g9 : n0 < b9 ∧ b9 < n1
  g10 : n0 < b10 ∧ b10 < n1
  g11 : n0 < b11 ∧ b11 < n1
  g5 : H1.get n0 = some ⟨64, bys f, ty⟩
  low : ∀ x, x < n0 → H1.get x = H0.get x
  fresh : ∀ x, n1 ≤ x → H1.get x = none

/-- The rows of the table of e up to k. -/
def colk (e : Nat → Int) (k : Nat) : Nat → Int := fun q => if q < 8 * k then colf e q else 0

theorem colk_zero (e : Nat → Int) : colk e 0 = fun _ => 0 := by
  funext q; unfold colk; rw [if_neg (by omega)]

theorem colk_step (e : Nat → Int) (k q : Nat) : put1 (bys (colk e k)) (8 * k) (.int .u8 (e k)) q = bys (colk e (k + 1)) q := by
  unfold put1 bys colk
  by_cases h : q = 8 * k
  · rw [if_pos h, if_pos (show q < 8 * (k + 1) by omega)]
    unfold colf
    rw [if_pos (by omega), show q / 8 = k by omega]
  · rw [if_neg h]
    by_cases h2 : q < 8 * k
    · rw [if_pos h2, if_pos (show q < 8 * (k + 1) by omega)]
    · rw [if_neg h2]
      by_cases h3 : q < 8 * (k + 1)
      · rw [if_pos h3]
        unfold colf
        rw [if_neg (by omega)]
      · rw [if_neg h3]

theorem colk_end {e : Nat → Int} {a : Nat} (he : vz a e) {q : Nat} (hq : q < 64) : colk e a q = colf e q := by
  unfold colk
  by_cases h : q < 8 * a
  · rw [if_pos h]
  · rw [if_neg h]
    unfold colf
    split
    · exact (he _ (by omega) (by omega)).symm
    · rfl

theorem colf_res {p : Int} (hp : 2 ≤ p) {e : Nat → Int} (he : isRes p 8 e) : isRes p 64 (colf e) := fun q hq => by
  unfold colf
  split
  · exact he _ (by omega)
  · omega

end Go.V

namespace Go.Proofs.YtideblodkkgodaaGreat

open Go.V

variable [BW]

set_option linter.unusedSimpArgs false

set_option linter.unusedVariables false

set_option maxHeartbeats 4000000

theorem spec_l01SolveK (p : Int) (a : Nat) (f : Nat → Int) (H : Hp) (n : Nat) (hp : isP p = true) (ha : a ≤ 8) (hfr : isRes p 64 f) :
    FnS Tryz.prog 60 [i64 p, i64 a, .arr 64 (bys f)] H n (fun r H' n' => ∃ kk Kr v9 v10 v11 b11, r = .tup [.s v9, .s v10, .s v11] ∧ KER p f a Kr kk ∧ (∀ l, l < kk → isRes p 8 (Kr l)) ∧ kk ≤ 8 ∧ VL H' v11 kk Kr b11 ∧ n ≤ b11 ∧ b11 < n' ∧ ∀ x, x < n → H'.get x = H.get x) := by
  have hb := isP_le hp
  have hfb : isBy 64 f := isRes.by hfr hb.2
  refine FnS.of_body Tryz.func60 tr60 (by simp) (fun hf => ?_)
  dsimp only [argEnv]
  unfold ir60
  (refine zG ?_)
  refine CS.weak (e1 := [(12, i64 ((0 : Nat) : Int)), (0, i64 p), (1, i64 a), (5, ptr n 0), (9, .s (.slc (n + 1) 0 0 0)), (10, .s (.slc (n + 2) 0 0 0)), (11, .s (.slc (n + 3) 0 0 0))]) (by (repeat first | exact trivial | refine And.intro rfl ?_)) (Drops.refl _ _) ?_
  refine CS.loop (fun k e H1 n1 => ∃ i m kk I S Kr v9 v10 v11 b9 b10 b11, i ≤ a ∧ k = a - i ∧ e = [(12, i64 (i : Nat)), (0, i64 p), (1, i64 a), (5, ptr n 0), (9, .s v9), (10, .s v10), (11, .s v11)] ∧ SolK H n 34 p f a i m kk I S Kr v9 v10 v11 b9 b10 b11 H1 n1) a ?_ ?_
  · refine ⟨0, 0, 0, fun _ _ => 0, fun _ _ => 0, fun _ _ => 0, _, _, _, n + 1, n + 2, n + 3, Nat.zero_le _, rfl, rfl, ?_⟩
    exact { src := SRC.zero f a _ _, kr := KR.zero p f a _ _, l9 := ⟨0, 0, _, rfl, by exact zH, by simp, Nat.le_refl _, fun i x hi => by omega⟩, l10 := ⟨0, 0, _, rfl, by exact zH, by simp, Nat.le_refl _, fun i x hi => by omega⟩, l11 := ⟨0, 0, _, rfl, by exact zH, by simp, Nat.le_refl _, fun i x hi => by omega⟩,
            kki := Nat.le_refl _, d1 := by omega, d2 := by omega, d3 := by omega, g9 := by omega, g10 := by omega, g11 := by omega, g5 := by exact zH, low := fun x hx => by simp (disch := omega) only [Hp.get_ne], fresh := fun x hx => by simp (disch := omega) only [Hp.get_ne]; exact hf x (by omega) }
  rintro k e H1 n1 hn1 ⟨i, m, kk, I, S, Kr, v9, v10, v11, b9, b10, b11, hi, rfl, rfl, hJ⟩
  obtain ⟨hsrc, hkr, hl9, hl10, hl11, hkki, d1, d2, d3, g9, g10, g11, g5, hlow, hfr1⟩ := hJ
  obtain ⟨o9, c9, K9, rfl, gb9, ho9, hm9, hc9⟩ := hl9
  obtain ⟨o10, c10, K10, rfl, gb10, ho10, hm10, hc10⟩ := hl10
  have hmi := hsrc.mi
  have g5n : n < n1 := by omega
  (refine zG ?_)
  refine zI ?_ ?_<;>intro h2
  · (refine zG ?_)
    refine CS.mixtL _ (fun _ _ h => h) ?_
    (repeat first|refine zG ?_|(refine LS.nilQ ?_;try with_reducible intro nq hnq;try refine zU ?_))
    refine LS.callQ (.arr 8 (bys (bas i))) rfl (fun n' hn' => spec_l01Basis i _ _ (by omega)) ?_
    (repeat first|refine zG ?_|(refine LS.nilQ ?_;try with_reducible intro nq hnq;try refine zU ?_))
    refine MTW.two (fun b13 b14 => [(13, ptr b13 0), (14, ptr b14 0), (12, i64 (i : Nat)), (0, i64 p), (1, i64 a), (5, ptr n 0), (9, .s (.slc b9 o9 m c9)), (10, .s (.slc b10 o10 m c10)), (11, .s v11)]) rfl rfl rfl rfl (by decide) (by decide) rfl rfl (fun b1 b2 => by (repeat first | exact trivial | refine And.intro rfl ?_)) (fun b1 b2 => by (repeat first | exact trivial | refine And.intro rfl ?_)) ?_
    intro b13 b14 n2 q13 q14 hne f13 f14 l13 l14 hn2
    have h2' : i < a := by omega
    have hbr : isRes p 8 (bas i) := fun x hx => by unfold bas; split <;> omega
    have hro : isRes p 8 (fun x => f (8 * i + x)) := fun x hx => hfr _ (by omega)
    (refine zG ?_)
    refine CS.iter m (fun k => [(15, i64 k), (13, ptr b13 0), (14, ptr b14 0), (12, i64 (i : Nat)), (0, i64 p), (1, i64 a), (5, ptr n 0), (9, .s (.slc b9 o9 m c9)), (10, .s (.slc b10 o10 m c10)), (11, .s v11)])
      (fun k => (b13, ⟨8, bys (rdk p I (fun x => f (8 * i + x)) k), 32⟩) :: (b14, ⟨8, bys (rdw p I S (fun x => f (8 * i + x)) (bas i) (-1) k), 32⟩) :: H1) (fun _ => True) (by (repeat first | exact trivial | refine And.intro rfl ?_)) (Drops.refl _ _) trivial ?_
    intro k n3 hk hn3 _
    (refine zG ?_)
    refine zI ?_ ?_<;>intro h3
    · have e9 : ∀ q, q < 8 → K9.c (o9 + k * 8 + q) = .int .u8 (I k q) := fun q hq => by rw [Nat.add_assoc]; exact hc9 k q (by omega) hq
      have e10 : ∀ q, q < 8 → K10.c (o10 + k * 8 + q) = .int .u8 (S k q) := fun q hq => by rw [Nat.add_assoc]; exact hc10 k q (by omega) hq
      have hIb : isBy 8 (I k) := isRes.by (hsrc.res k (by omega)) hb.2
      have hSb : isBy 8 (S k) := isRes.by (hsrc.sres k (by omega)) hb.2
      have hlt := hsrc.lt k (by omega)
      have hrk : isRes p 8 (rdk p I (fun x => f (8 * i + x)) k) := rdk_res hb.1 hro k
      have hrw : isRes p 8 (rdw p I S (fun x => f (8 * i + x)) (bas i) (-1) k) := rdw_res hb.1 hbr k
      have hrt := hrk (fsn (I k) 8) hlt
      have hr1 : (bys (rdk p I (fun x => f (8 * i + x)) k)) (fsn (I k) 8) = .int .u8 (rdk p I (fun x => f (8 * i + x)) k (fsn (I k) 8)) := rfl
      (refine zG ?_)
      refine RS.call rfl ((spec_l01First (I k) _ _).mono ?_)
      rintro r H' n4 hn4 ⟨rfl, rfl⟩
      (refine zG ?_)
      refine zI ?_ ?_<;>intro h4
      · (refine zG ?_)
        refine RS.neg64 (by exact rfl) (by omega) ?_
        (repeat first|refine zG ?_|(refine LS.nilQ ?_;try with_reducible intro nq hnq;try refine zU ?_))
        refine RS.call rfl ((spec_l01AddN p (-(rdk p I (fun x => f (8 * i + x)) k (fsn (I k) 8))) (rdk p I (fun x => f (8 * i + x)) k) (I k) _ _ hb (isRes.by hrk hb.2) hIb (by omega)).mono ?_)
        rintro r H' n5 hn5 ⟨rfl, rfl⟩
        (repeat first|refine zG ?_|(refine LS.nilQ ?_;try with_reducible intro nq hnq;try refine zU ?_))
        refine RS.call rfl ((spec_l01AddN p (-(rdk p I (fun x => f (8 * i + x)) k (fsn (I k) 8))) (rdw p I S (fun x => f (8 * i + x)) (bas i) (-1) k) (S k) _ _ hb (isRes.by hrw hb.2) hSb (by omega)).mono ?_)
        rintro r H' n6 hn6 ⟨rfl, rfl⟩
        (refine zG ?_)
        exact ⟨by omega, by (repeat first | exact trivial | refine And.intro rfl ?_), Drops.keepc rfl rfl (fun _ _ => rfl) (Drops.keepc rfl rfl (fun q hq => by rw [rdw_succ, Int.neg_one_mul]) (Drops.refl _ _)), trivial⟩
      · (refine zG ?_)
        exact ⟨by omega, by (repeat first | exact trivial | refine And.intro rfl ?_), Drops.keepc rfl rfl (fun q hq => congrArg (SV.int .u8) (rdk_same hb.1 hro h4 hq).symm) (Drops.keepc rfl rfl (fun q hq => congrArg (SV.int .u8) (rdw_same hb.1 hbr h4 hq).symm) (Drops.refl _ _)), trivial⟩
    · obtain rfl : k = m := by omega
      have hrk : isRes p 8 (rdk p I (fun x => f (8 * i + x)) k) := rdk_res hb.1 hro k
      have hrw : isRes p 8 (rdw p I S (fun x => f (8 * i + x)) (bas i) (-1) k) := rdw_res hb.1 hbr k
      obtain ⟨U, hU⟩ : ∃ U, U = rdk p I (fun x => f (8 * i + x)) k := ⟨_, rfl⟩
      obtain ⟨W, hW⟩ : ∃ W, W = rdw p I S (fun x => f (8 * i + x)) (bas i) (-1) k := ⟨_, rfl⟩
      rw [← hU] at hrk
      rw [← hW] at hrw
      rw [← hU, ← hW]
      (refine zG ?_)
      refine RS.call rfl ((spec_l01Zero U _ _).mono ?_)
      rintro r H' n4 hn4 ⟨rfl, rfl⟩
      (refine zG ?_)
      refine zI ?_ ?_<;>intro h5
      · (refine zG ?_)
        refine RS.appV (w := W) (by exact rfl) (by exact rfl) (hl11.keep (by simp (disch := omega) only [Hp.get_ne])) (by exact zH) rfl (fun q hq => ?_) (by omega) (by simp (disch := omega) only [Hp.get_ne]; exact hfr1 _ (by omega)) (by omega) ?_
        · (try dsimp only)
          unfold splice; rw [if_pos (by omega), Nat.sub_zero]; rfl
        intro v' b' H' n5 hV hb' hlt' hn5 hn5' hg'
        (refine zG ?_)
        refine ⟨a - (i + 1), [(12, i64 ((i + 1 : Nat) : Int)), (0, i64 p), (1, i64 a), (5, ptr n 0), (9, .s (.slc b9 o9 k c9)), (10, .s (.slc b10 o10 k c10)), (11, .s v')], H', by omega, by (repeat first | exact trivial | refine And.intro rfl ?_), Drops.refl _ _, i + 1, k, kk + 1, I, S, snc Kr kk W, _, _, _, b9, b10, b', by omega, rfl, rfl, ?_⟩
        have e9 : H'.get b9 = H1.get b9 := by rw [hg' b9 (by omega)]; simp (disch := omega) only [Hp.get_ne]
        have e10 : H'.get b10 = H1.get b10 := by rw [hg' b10 (by omega)]; simp (disch := omega) only [Hp.get_ne]
        exact { src := hsrc.ker (fun x hx => by rw [← hU]; exact h5 x hx), kr := hkr.ker hb.1 hsrc h2' ha hW (fun x hx => by rw [← hU]; exact h5 x hx), l9 := ⟨o9, c9, K9, rfl, e9.trans gb9, ho9, hm9, hc9⟩, l10 := ⟨o10, c10, K10, rfl, e10.trans gb10, ho10, hm10, hc10⟩, l11 := hV, kki := by omega, d1 := d1, d2 := by omega, d3 := by omega, g9 := by omega, g10 := by omega, g11 := by omega,
                g5 := by rw [hg' n (by omega)]; simp (disch := omega) only [Hp.get_ne]; exact g5
                low := fun x hx => by rw [hg' x (by omega)]; simp (disch := omega) only [Hp.get_ne]; exact hlow x hx
                fresh := fun x hx => by rw [hg' x (by omega)]; simp (disch := omega) only [Hp.get_ne]; exact hfr1 x (by omega) }
      · have hz0 : fsn U 8 < 8 := by
          rcases Nat.lt_or_ge (fsn U 8) 8 with h | h
          · exact h
          · exact absurd (fun q hq => fsn_low U 8 q (by omega)) h5
        have hu1 : (bys U) (fsn U 8) = .int .u8 (U (fsn U 8)) := rfl
        have hub := hrk (fsn U 8) hz0
        have hne0 : U (fsn U 8) % p ≠ 0 := by rw [modSelf hub]; exact fsn_hit U 8 hz0
        have hinv := inv_spec hp hne0
        (refine zG ?_)
        refine RS.call rfl ((spec_l01First U _ _).mono ?_)
        rintro r H' n5 hn5 ⟨rfl, rfl⟩
        (refine zG ?_)
        refine RS.call rfl ((spec_l01Inverse p (U (fsn U 8)) _ _ hp (by omega) hne0).mono ?_)
        rintro r H' n6 hn6 ⟨rfl, rfl⟩
        (refine zG ?_)
        refine RS.call rfl ((FnS.args (concs_cons rfl (concs_cons (conc_arr (fun q hq => rfl)) rfl)) (spec_l01AddN p (inv p (U (fsn U 8))) (fun _ => 0) U _ _ hb (fun _ _ => ⟨by (try dsimp only); omega, by (try dsimp only); omega⟩) (isRes.by hrk hb.2) (by omega))).mono ?_)
        rintro r H' n7 hn7 ⟨rfl, rfl⟩
        (refine zG ?_)
        refine RS.appV (w := pl p (fun _ => 0) (inv p (U (fsn U 8))) U) (by exact rfl) (by exact rfl) (VL.keep (H := H1) ⟨o9, c9, K9, rfl, gb9, ho9, hm9, hc9⟩ (by simp (disch := omega) only [Hp.get_ne])) (by exact zH) rfl (fun q hq => ?_) (by omega) (by simp (disch := omega) only [Hp.get_ne]; exact hfr1 _ (by omega)) (by omega) ?_
        · (try dsimp only)
          unfold splice; rw [if_pos (by omega), Nat.sub_zero]; rfl
        intro w9 x9 H2 n8 hV9 hx9 hl8 hn8 hn8' hg9
        have g14 : H2.get b14 = some ⟨8, bys W, 32⟩ := by rw [hg9 b14 (by omega)]; simp (disch := omega) only [Hp.get_ne, Hp.get_eq]
        (refine zG ?_)
        refine RS.call rfl ((FnS.args (concs_cons rfl (concs_cons (conc_arr (fun q hq => rfl)) rfl)) (spec_l01AddN p (inv p (U (fsn U 8))) (fun _ => 0) W _ _ hb (fun _ _ => ⟨by (try dsimp only); omega, by (try dsimp only); omega⟩) (isRes.by hrw hb.2) (by omega))).mono ?_)
        rintro r H2 n9 hn9 ⟨rfl, rfl⟩
        (refine zG ?_)
        have hf2 : ∀ x, n8 ≤ x → H2.get x = none := fun x hx => by rw [hg9 x (by omega)]; simp (disch := omega) only [Hp.get_ne]; exact hfr1 x (by omega)
        have e10 : H2.get b10 = H1.get b10 := by rw [hg9 b10 (by omega)]; simp (disch := omega) only [Hp.get_ne]
        refine RS.appV (w := pl p (fun _ => 0) (inv p (U (fsn U 8))) W) (by exact rfl) (by exact rfl) (VL.keep (H := H1) ⟨o10, c10, K10, rfl, gb10, ho10, hm10, hc10⟩ (by simp (disch := omega) only [Hp.get_ne]; exact e10)) (by exact zH) rfl (fun q hq => ?_) (by omega) (by simp (disch := omega) only [Hp.get_ne]; exact hf2 _ (by omega)) (by omega) ?_
        · (try dsimp only)
          unfold splice; rw [if_pos (by omega), Nat.sub_zero]; rfl
        intro w10 x10 H3 n10 hV10 hx10 hl10 hn10 hn10' hg10
        (refine zG ?_)
        have hlow2 : ∀ x, x ≠ x10 → x ≠ n9 → H3.get x = H2.get x := fun x q1 q2 => by rw [hg10 x q1]; simp (disch := omega) only [Hp.get_ne]
        have hlow1 : ∀ x, x ≠ x9 → x < n1 → H2.get x = H1.get x := fun x q1 q2 => by rw [hg9 x q1]; simp (disch := omega) only [Hp.get_ne]
        refine ⟨a - (i + 1), [(12, i64 ((i + 1 : Nat) : Int)), (0, i64 p), (1, i64 a), (5, ptr n 0), (9, .s w9), (10, .s w10), (11, .s v11)], H3, by omega, by (repeat first | exact trivial | refine And.intro rfl ?_), Drops.refl _ _, i + 1, k + 1, kk, snc I k (pl p (fun _ => 0) (inv p (U (fsn U 8))) U), snc S k (pl p (fun _ => 0) (inv p (U (fsn U 8))) W), Kr, _, _, _, x9, x10, b11, by omega, rfl, rfl, ?_⟩
        refine { src := hsrc.img hp h2' ha hfr U W hU hW hz0, kr := hkr.img (u := U (fsn U 8)) (by rw [Int.mul_comm, hinv.2.2]; exact (modSelf ⟨by omega, by omega⟩).symm) hW, l9 := hV9.keep (hlow2 x9 (by omega) (by omega)), l10 := hV10, l11 := hl11.keep ((hlow2 b11 (by omega) (by omega)).trans (hlow1 b11 (by omega) (by omega))), kki := by omega, d1 := by omega, d2 := by omega, d3 := by omega, g9 := by omega, g10 := by omega, g11 := by omega, g5 := ?_, low := fun x hx => ?_, fresh := fun x hx => ?_ }
        · exact (hlow2 n (by omega) (by omega)).trans ((hlow1 n (by omega) (by omega)).trans g5)
        · exact (hlow2 x (by omega) (by omega)).trans ((hlow1 x (by omega) (by omega)).trans (hlow x hx))
        · exact (hlow2 x (by omega) (by omega)).trans (hf2 x (by omega))
  · obtain rfl : i = a := by omega
    (refine zG ?_)
    exact ⟨.tup [.s (.slc b9 o9 m c9), .s (.slc b10 o10 m c10), .s v11], H1, rfl, Drops.refl _ _, kk, Kr, _, _, _, b11, rfl, hkr.iff hb.1 hsrc ha, hkr.res, by omega, hl11, by omega, by omega, hlow⟩

/-- spec.l01Kernel -/
def ir41 : Cd := (.seq (.reg [⟨some 5,none,.box 34 (.t 2)⟩,⟨some 6,none,.mov (.c .nils)⟩]) (.seq (.reg [⟨some 11,none,.mov (.t 0)⟩,⟨some 12,none,.mov (.t 1)⟩,⟨some 13,none,.ld (some 64) (.t 5)⟩,⟨some 14,none,.call 60 [(.t 11),(.t 12),(.t 13)]⟩,⟨some 10,none,.mov (.t 14)⟩,⟨some 15,none,.ex (.t 10) 0⟩,⟨some 16,none,.ex (.t 10) 1⟩,⟨some 17,none,.ex (.t 10) 2⟩,⟨some 7,none,.mov (.t 15)⟩,⟨some 8,none,.mov (.t 16)⟩,⟨some 9,none,.mov (.t 17)⟩]) (.seq (.reg [⟨some 18,none,.mov (.t 0)⟩,⟨some 19,none,.mov (.t 9)⟩,⟨some 20,none,.call 14 [(.t 18),(.t 19)]⟩,⟨some 6,none,.mov (.t 20)⟩]) .ret)))

set_option maxRecDepth 100000 in
theorem tr41 : trFn Tryz.prog Tryz.f41 = some (21, ir41, [.tmp 6]) := by kernel_rfl

theorem spec_l01Kernel (p : Int) (a : Nat) (f : Nat → Int) (H : Hp) (n : Nat) (hp : isP p = true) (ha : a ≤ 8) (hfr : isRes p 64 f) :
    FnS Tryz.prog 41 [i64 p, i64 a, .arr 64 (bys f)] H n (fun r H' n' => ∃ sv A d P b, r = .s sv ∧ VL H' sv d A b ∧ RR p A d P ∧ KER p f a A d ∧ n ≤ b ∧ b < n' ∧ (∀ x, n' ≤ x → H'.get x = none) ∧ ∀ x, x < n → H'.get x = H.get x) := by
  refine FnS.of_body Tryz.func41 tr41 (by simp) (fun hf => ?_)
  dsimp only [argEnv]
  unfold ir41
  (refine zG ?_)
  refine RS.call rfl ((FnS.args (concs_cons rfl (concs_cons rfl (concs_cons (conc_arr (fun q hq => by first | rfl | (simp only [Nat.zero_add]; done) | (simp only [Nat.zero_add]; rfl))) rfl))) (spec_l01SolveK p a f _ _ hp ha hfr)).mono ?_)
  rintro r H1 n1 hn1 ⟨kk, Kr, v9, v10, v11, b11, rfl, hker, hres, hkk, hV, hb1, hb2, hlow⟩
  (refine zG ?_)
  refine RS.call rfl ((spec_l01Reduce p Kr kk b11 v11 _ _ hp (by omega) hV hres).mono ?_)
  rintro r H2 n2 hn2 ⟨sv, A, d, P, b, rfl, V, rr, sm, hb, hbn, hfr2, hlow2⟩
  (refine zG ?_)
  exact ⟨.s sv, H2, rfl, Drops.refl _ _, sv, A, d, P, b, rfl, V, rr, hker.same sm, by omega, hbn, hfr2, fun x hx => by rw [hlow2 x (by omega), hlow x (by omega)]; simp (disch := omega) only [Hp.get_ne]⟩

/-- spec.l07Augmentation -/
def ir17 : Cd := (.seq (.reg [⟨some 1,none,.box 38 (.t 0)⟩,⟨some 2,none,.mov (.c .nils)⟩]) (.seq (.reg [⟨some 5,none,.build 64 [(64,(.int .u8 0))] []⟩,⟨some 3,none,.new 34 [(64,(.int .u8 0))]⟩,⟨none,none,.st 64 (.t 3) (.t 5)⟩]) (.seq (.seq (.reg [⟨some 4,none,.mov (.c (.int .i64 0))⟩]) (.block 0 (.loop (.seq (.seq (.reg [⟨some 6,none,.mov (.t 4)⟩,⟨some 7,none,.fa 1 (.t 1)⟩,⟨some 8,none,.ld none (.t 7)⟩,⟨some 9,none,.bin .lss (.t 6) (.t 8)⟩]) (.cond (.t 9) .skip (.exit 0))) (.seq (.block 1 (.drw true [7] [⟨some 12,none,.mov (.t 4)⟩,⟨some 13,none,.mov (.t 4)⟩,⟨some 14,none,.fa 522 (.t 1)⟩,⟨some 15,none,.ia 8 1 (.t 14) (.t 13)⟩,⟨some 16,none,.ld none (.t 15)⟩,⟨some 17,none,.ia 8 8 (.t 3) (.t 12)⟩,⟨some 18,none,.ia 8 1 (.t 17) (.c (.int .i64 0))⟩,⟨none,none,.st 1 (.t 18) (.t 16)⟩])) (.reg [⟨some 10,none,.mov (.t 4)⟩,⟨some 11,none,.bin .add (.t 10) (.c (.int .i64 1))⟩,⟨some 4,none,.mov (.t 11)⟩])))))) (.seq (.reg [⟨some 19,none,.fa 0 (.t 1)⟩,⟨some 20,none,.ld none (.t 19)⟩,⟨some 21,none,.fa 1 (.t 1)⟩,⟨some 22,none,.ld none (.t 21)⟩,⟨some 23,none,.ld (some 64) (.t 3)⟩,⟨some 24,none,.call 41 [(.t 20),(.t 22),(.t 23)]⟩,⟨some 2,none,.mov (.t 24)⟩]) .ret))))

set_option maxRecDepth 100000 in
theorem tr17 : trFn Tryz.prog Tryz.f17 = some (25, ir17, [.tmp 2]) := by kernel_rfl

theorem spec_l07Augmentation (h : HT) (a : Nat) (K : Nat → SV) (H : Hp) (n : Nat) (hS : HS h a) (hp : isP h.p = true) (hK : h.At K) (he : isRes h.p 8 h.e) :
    FnS Tryz.prog 17 [.arr 1106 K] H n (fun r H' n' => ∃ sv A d P b, r = .s sv ∧ VL H' sv d A b ∧ RR h.p A d P ∧ KER h.p (colf h.e) a A d ∧ n ≤ b ∧ b < n' ∧ (∀ x, n' ≤ x → H'.get x = none) ∧ ∀ x, x < n → H'.get x = H.get x) := by
  have hb := hS.hp
  have ha := hS.ha
  have k0 := hK.p
  have k1 := hK.n
  rw [hS.hn] at k1
  have k1' : K (0 + 1) = .int .i64 (a : Nat) := k1
  have k4 := hK.e
  have heb := isRes.by he hb.2
  refine FnS.of_body Tryz.func17 tr17 (by simp) (fun hf => ?_)
  dsimp only [argEnv]
  unfold ir17
  (refine zG ?_)
  refine CS.iter a (fun i => [(4, i64 (i : Nat)), (1, ptr n 0), (3, ptr (n + 1) 0)]) (fun i => (n + 1, ⟨64, bys (colk h.e i), 34⟩) :: (n, ⟨1106, K, 38⟩) :: H) (fun _ => True) (by (repeat first | exact trivial | refine And.intro rfl ?_))
    (Drops.keepc rfl rfl (fun q hq => by rw [colk_zero]; rfl) (Drops.refl _ _)) trivial ?_
  intro i n1 hi hn1 _
  (refine zG ?_)
  refine zI ?_ ?_<;>intro h1
  · have hei := heb i (by omega)
    have k4i := k4 i (by omega)
    (repeat first|refine zG ?_|(refine LS.nilQ ?_;try with_reducible intro nq hnq;try refine zU ?_))
    exact ⟨by omega, by (repeat first | exact trivial | refine And.intro rfl ?_), Drops.keepc rfl rfl (fun q hq => colk_step h.e i q) (Drops.refl _ _), trivial⟩
  · obtain rfl : i = a := by omega
    (refine zG ?_)
    refine RS.call rfl ((FnS.args (concs_cons rfl (concs_cons rfl (concs_cons (conc_arr (fun q hq => ?_)) rfl))) (spec_l01Kernel h.p i (colf h.e) _ _ hp ha (colf_res hb.1 he))).mono ?_)
    · first | exact congrArg (SV.int .u8) (colk_end hS.em hq).symm | (simp only [Nat.zero_add]; exact congrArg (SV.int .u8) (colk_end hS.em hq).symm) | exact congrArg (SV.int .u8) (colk_end hS.em hq) | (simp only [Nat.zero_add]; exact congrArg (SV.int .u8) (colk_end hS.em hq))
    rintro r H2 n2 hn2 ⟨sv, A, d, P, b, rfl, V, rr, ker, hb1, hbn, hfr2, hlow2⟩
    (refine zG ?_)
    exact ⟨.s sv, H2, rfl, Drops.refl _ _, sv, A, d, P, b, rfl, V, rr, ker, by omega, hbn, hfr2, fun x hx => by rw [hlow2 x (by omega)]; simp (disch := omega) only [Hp.get_ne]⟩

end Go.Proofs.YtideblodkkgodaaGreat
