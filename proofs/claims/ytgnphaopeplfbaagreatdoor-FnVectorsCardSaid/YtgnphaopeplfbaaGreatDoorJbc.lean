/- Left tables and traces, both sides (printed by g119.py). -/
import Derived.Test.YtgnphaopeplfbaaGreatDoorJbb
set_option linter.unusedSectionVars false
set_option linter.unusedVariables false
set_option linter.unusedSimpArgs false

namespace Go.V

set_option linter.unusedSimpArgs false

set_option linter.unusedVariables false

/-- A number where A holds, nothing where not. -/
noncomputable def ivN (A : Prop) (x : Int) : Int := if tb A = true then x else 0

theorem ivN_t {A : Prop} (h : A) (x : Int) : ivN A x = x := by unfold ivN; rw [if_pos (tb_true h)]

theorem ivN_f {A : Prop} (h : ¬A) (x : Int) : ivN A x = 0 := by unfold ivN; rw [tb_false h, if_neg (by simp)]

end Go.V

namespace Go.Proofs.YtgnphaopeplfbaaGreatDoor

open Go.V

variable [BW]

set_option linter.unusedSimpArgs false

set_option linter.unusedVariables false

set_option maxHeartbeats 4000000

/-- spec.LeftTable -/
def ir21 : Cd := (.seq (.reg [⟨some 2,none,.box 31 (.t 0)⟩,⟨some 3,none,.box 25 (.t 1)⟩,⟨some 4,none,.new 27 [(64,(.int .u8 0))]⟩,⟨some 5,none,.mov (.c (.int .i64 0))⟩]) (.seq (.seq (.reg [⟨some 7,none,.ld (some 522) (.t 2)⟩,⟨some 8,none,.ld (some 8) (.t 3)⟩,⟨some 9,none,.bsl 25 1 8 [(8,(.int .u8 0))] [(0,8,(.t 8))]⟩,⟨some 10,none,.call 27 [(.t 7),(.t 9)]⟩,⟨some 6,none,.mov (.t 10)⟩]) (.seq (.reg [⟨some 11,none,.mov (.t 6)⟩,⟨some 12,none,.bin .neq (.t 11) (.c (.int .i64 0))⟩]) (.cond (.t 12) (.seq (.reg [⟨some 13,none,.build 64 [(64,(.int .u8 0))] []⟩,⟨some 14,none,.mov (.t 6)⟩,⟨none,none,.st 64 (.t 4) (.t 13)⟩,⟨some 5,none,.mov (.t 14)⟩]) .ret) .skip))) (.seq (.reg [⟨some 15,none,.ld (some 522) (.t 2)⟩,⟨some 16,none,.ld (some 8) (.t 3)⟩,⟨some 17,none,.call 38 [(.t 15),(.t 16)]⟩,⟨none,none,.st 64 (.t 4) (.t 17)⟩,⟨some 5,none,.mov (.c (.int .i64 0))⟩]) .ret)))

set_option maxRecDepth 100000 in
theorem tr21 : trFn Tryz.prog Tryz.f21 = some (18, ir21, [.cell (some 64) 4, .tmp 5]) := by kernel_rfl

theorem spec_LeftTable (p n' : Int) (u m v : Nat → Int) (K : Nat → SV) (H : Hp) (n : Nat) (h0 : K 0 = .int .i64 p) (h1 : K 1 = .int .i64 n')
    (hU : ∀ q, q < 8 → K (2 + q) = .int .u8 (u q)) (hK : ∀ q, q < 512 → K (10 + q) = .int .u8 (m q)) (hu : isBy 8 u) (hm : isBy 512 m) (hv : isBy 8 v) :
    FnS Tryz.prog 21 [.arr 522 K, .arr 8 (bys v)] H n (fun r H' _ => r = .tup [.arr 64 (bys (ivX (isAlg p n' u m ∧ isVec p n' v) (lft p m v n'.toNat))), i64 (cd (isAlg p n' u m ∧ isVec p n' v))] ∧ H' = H) := by
  refine FnS.of_body Tryz.func21 tr21 (by simp) (fun hf => ?_)
  dsimp only [argEnv]
  unfold ir21
  (repeat first|refine zG ?_|(refine LS.nilO ?_;intro nq hnq hltq;try refine zU ?_)|(refine MS.new ?_;intro bq hbq hbqf;try refine zU ?_)|(refine MS.nil ?_;intro nq hnq hltq;have hlq:=hltq _ _ (Hp.get_eq _ _ _);clear hltq;try refine zU ?_)|(refine LS.nilQ ?_;try with_reducible intro nq hnq;try refine zU ?_))
  refine RS.call rfl ((FnS.args (concs_cons (conc_arr (fun q hq => rfl)) rfl) (spec_l01CodeL p n' u m v 1 (n + 3) _ K _ _ (by omega) h0 h1 hU hK hu hm hv (by exact zH) (by simp) (fun q hq => by (try dsimp only); unfold splice; rw [if_pos (by omega)]; simp only [Nat.sub_zero]; rfl))).mono ?_)
  rintro r H' n2 hn2 ⟨rfl, rfl⟩
  rw [cd_iff one_iff]
  (repeat first|refine zG ?_|(refine LS.nilO ?_;intro nq hnq hltq;try refine zU ?_)|(refine MS.new ?_;intro bq hbq hbqf;try refine zU ?_)|(refine MS.nil ?_;intro nq hnq hltq;have hlq:=hltq _ _ (Hp.get_eq _ _ _);clear hltq;try refine zU ?_)|(refine LS.nilQ ?_;try with_reducible intro nq hnq;try refine zU ?_))
  refine zI ?_ ?_<;>intro h2
  · have h3 : ¬(isAlg p n' u m ∧ isVec p n' v) := fun q => h2 (cdz.2 q)
    (repeat first|refine zG ?_|(refine LS.nilO ?_;intro nq hnq hltq;try refine zU ?_)|(refine MS.new ?_;intro bq hbq hbqf;try refine zU ?_)|(refine MS.nil ?_;intro nq hnq hltq;have hlq:=hltq _ _ (Hp.get_eq _ _ _);clear hltq;try refine zU ?_)|(refine LS.nilQ ?_;try with_reducible intro nq hnq;try refine zU ?_))
    exact ⟨.tup [.arr 64 (bys (ivX (isAlg p n' u m ∧ isVec p n' v) (lft p m v n'.toNat))), i64 (cd (isAlg p n' u m ∧ isVec p n' v))], H, conc_tup2 (conc_arr (fun q hq => by rw [ivX_f h3]; first | rfl | (simp only [Nat.zero_add]; rfl))) rfl, by exact zD, rfl, rfl⟩
  · have h3 : isAlg p n' u m ∧ isVec p n' v := cdz.1 h2
    obtain ⟨a, rfl, hW⟩ := algW_of h3 hu hv
    rw [Int.toNat_natCast]
    have hb := isP_le hW.hp
    have ha := hW.ha
    have h1' : K (0 + 1) = .int .i64 (a : Nat) := h1
    (repeat first|refine zG ?_|(refine LS.nilO ?_;intro nq hnq hltq;try refine zU ?_)|(refine MS.new ?_;intro bq hbq hbqf;try refine zU ?_)|(refine MS.nil ?_;intro nq hnq hltq;have hlq:=hltq _ _ (Hp.get_eq _ _ _);clear hltq;try refine zU ?_)|(refine LS.nilQ ?_;try with_reducible intro nq hnq;try refine zU ?_))
    refine RS.call rfl ((FnS.args (concs_cons (conc_arr (fun q hq => rfl)) (concs_cons (conc_arr (fun q hq => rfl)) rfl)) (spec_l01Left p a m v K _ _ hb ha h0 h1 hK hm hv)).mono ?_)
    rintro r H' n3 hn3 ⟨rfl, rfl⟩
    (repeat first|refine zG ?_|(refine LS.nilO ?_;intro nq hnq hltq;try refine zU ?_)|(refine MS.new ?_;intro bq hbq hbqf;try refine zU ?_)|(refine MS.nil ?_;intro nq hnq hltq;have hlq:=hltq _ _ (Hp.get_eq _ _ _);clear hltq;try refine zU ?_)|(refine LS.nilQ ?_;try with_reducible intro nq hnq;try refine zU ?_))
    exact ⟨.tup [.arr 64 (bys (ivX (isAlg p (a : Nat) u m ∧ isVec p (a : Nat) v) (lft p m v a))), i64 (cd (isAlg p (a : Nat) u m ∧ isVec p (a : Nat) v))], H, conc_tup2 (conc_arr (fun q hq => by rw [ivX_t h3, Nat.zero_add])) (by rw [cd_true h3]), by exact zD, rfl, rfl⟩

/-- impl.LeftTable -/
def ir10 : Cd := (.seq (.reg [⟨some 2,none,.box 31 (.t 0)⟩,⟨some 3,none,.box 25 (.t 1)⟩,⟨some 4,none,.new 27 [(64,(.int .u8 0))]⟩,⟨some 5,none,.mov (.c (.int .i64 0))⟩]) (.seq (.seq (.reg [⟨some 7,none,.ld (some 8) (.t 3)⟩,⟨some 8,none,.bsl 25 1 8 [(8,(.int .u8 0))] [(0,8,(.t 7))]⟩,⟨some 9,none,.call 29 [(.t 2),(.t 8)]⟩,⟨some 6,none,.mov (.t 9)⟩]) (.seq (.reg [⟨some 10,none,.mov (.t 6)⟩,⟨some 11,none,.bin .neq (.t 10) (.c (.int .i64 0))⟩]) (.cond (.t 11) (.seq (.reg [⟨some 12,none,.build 64 [(64,(.int .u8 0))] []⟩,⟨some 13,none,.mov (.t 6)⟩,⟨none,none,.st 64 (.t 4) (.t 12)⟩,⟨some 5,none,.mov (.t 13)⟩]) .ret) .skip))) (.seq (.reg [⟨some 14,none,.ld (some 8) (.t 3)⟩,⟨some 15,none,.call 32 [(.t 2),(.t 14)]⟩,⟨none,none,.st 64 (.t 4) (.t 15)⟩,⟨some 5,none,.mov (.c (.int .i64 0))⟩]) .ret)))

set_option maxRecDepth 100000 in
theorem tr10 : trFn Tryz.prog Tryz.f10 = some (16, ir10, [.cell (some 64) 4, .tmp 5]) := by kernel_rfl

theorem impl_LeftTable (p n' : Int) (u m v : Nat → Int) (K : Nat → SV) (H : Hp) (n : Nat) (h0 : K 0 = .int .i64 p) (h1 : K 1 = .int .i64 n')
    (hU : ∀ q, q < 8 → K (2 + q) = .int .u8 (u q)) (hK : ∀ q, q < 512 → K (10 + q) = .int .u8 (m q)) (hu : isBy 8 u) (hm : isBy 512 m) (hv : isBy 8 v) :
    FnS Tryz.prog 10 [.arr 522 K, .arr 8 (bys v)] H n (fun r H' _ => r = .tup [.arr 64 (bys (ivX (isAlg p n' u m ∧ isVec p n' v) (lft p m v n'.toNat))), i64 (cd (isAlg p n' u m ∧ isVec p n' v))] ∧ H' = H) := by
  refine FnS.of_body Tryz.func10 tr10 (by simp) (fun hf => ?_)
  dsimp only [argEnv]
  unfold ir10
  (repeat first|refine zG ?_|(refine LS.nilO ?_;intro nq hnq hltq;try refine zU ?_)|(refine MS.new ?_;intro bq hbq hbqf;try refine zU ?_)|(refine MS.nil ?_;intro nq hnq hltq;have hlq:=hltq _ _ (Hp.get_eq _ _ _);clear hltq;try refine zU ?_)|(refine LS.nilQ ?_;try with_reducible intro nq hnq;try refine zU ?_))
  refine RS.call rfl ((Algebra_code p n' u m n (.slc (n + 3) 0 1 1) 1 (by omega) v _ _ _ (by exact zH) rfl h0 h1 hU hK hu hm (.inr ⟨n + 3, 0, 1, _, rfl, by exact zH, by simp, fun q hq => by (try dsimp only); unfold splice; rw [if_pos (by omega)]; simp only [Nat.sub_zero, Nat.zero_add]; rfl⟩) hv).mono ?_)
  rintro r H' n2 hn2 ⟨rfl, rfl⟩
  rw [cd_iff one_iff]
  (repeat first|refine zG ?_|(refine LS.nilO ?_;intro nq hnq hltq;try refine zU ?_)|(refine MS.new ?_;intro bq hbq hbqf;try refine zU ?_)|(refine MS.nil ?_;intro nq hnq hltq;have hlq:=hltq _ _ (Hp.get_eq _ _ _);clear hltq;try refine zU ?_)|(refine LS.nilQ ?_;try with_reducible intro nq hnq;try refine zU ?_))
  refine zI ?_ ?_<;>intro h2
  · have h3 : ¬(isAlg p n' u m ∧ isVec p n' v) := fun q => h2 (cdz.2 q)
    (repeat first|refine zG ?_|(refine LS.nilO ?_;intro nq hnq hltq;try refine zU ?_)|(refine MS.new ?_;intro bq hbq hbqf;try refine zU ?_)|(refine MS.nil ?_;intro nq hnq hltq;have hlq:=hltq _ _ (Hp.get_eq _ _ _);clear hltq;try refine zU ?_)|(refine LS.nilQ ?_;try with_reducible intro nq hnq;try refine zU ?_))
    exact ⟨.tup [.arr 64 (bys (ivX (isAlg p n' u m ∧ isVec p n' v) (lft p m v n'.toNat))), i64 (cd (isAlg p n' u m ∧ isVec p n' v))], H, conc_tup2 (conc_arr (fun q hq => by rw [ivX_f h3]; first | rfl | (simp only [Nat.zero_add]; rfl))) rfl, by exact zD, rfl, rfl⟩
  · have h3 : isAlg p n' u m ∧ isVec p n' v := cdz.1 h2
    obtain ⟨a, rfl, hW⟩ := algW_of h3 hu hv
    rw [Int.toNat_natCast]
    have hb := isP_le hW.hp
    have ha := hW.ha
    have h1' : K (0 + 1) = .int .i64 (a : Nat) := h1
    (repeat first|refine zG ?_|(refine LS.nilO ?_;intro nq hnq hltq;try refine zU ?_)|(refine MS.new ?_;intro bq hbq hbqf;try refine zU ?_)|(refine MS.nil ?_;intro nq hnq hltq;have hlq:=hltq _ _ (Hp.get_eq _ _ _);clear hltq;try refine zU ?_)|(refine LS.nilQ ?_;try with_reducible intro nq hnq;try refine zU ?_))
    refine RS.call rfl ((FnS.args (concs_cons rfl (concs_cons (conc_arr (fun q hq => rfl)) rfl)) (Algebra_leftTable p a m v n _ _ _ hb ha (by exact zH) rfl h0 h1 hK hm hv)).mono ?_)
    rintro r H' n3 hn3 ⟨rfl, rfl⟩
    (repeat first|refine zG ?_|(refine LS.nilO ?_;intro nq hnq hltq;try refine zU ?_)|(refine MS.new ?_;intro bq hbq hbqf;try refine zU ?_)|(refine MS.nil ?_;intro nq hnq hltq;have hlq:=hltq _ _ (Hp.get_eq _ _ _);clear hltq;try refine zU ?_)|(refine LS.nilQ ?_;try with_reducible intro nq hnq;try refine zU ?_))
    exact ⟨.tup [.arr 64 (bys (ivX (isAlg p (a : Nat) u m ∧ isVec p (a : Nat) v) (lft p m v a))), i64 (cd (isAlg p (a : Nat) u m ∧ isVec p (a : Nat) v))], H, conc_tup2 (conc_arr (fun q hq => by rw [ivX_t h3, Nat.zero_add])) (by rw [cd_true h3]), by exact zD, rfl, rfl⟩

/-- spec.TraceOf -/
def ir22 : Cd := (.seq (.reg [⟨some 2,none,.box 31 (.t 0)⟩,⟨some 3,none,.box 25 (.t 1)⟩,⟨some 4,none,.mov (.c (.int .i64 0))⟩,⟨some 5,none,.mov (.c (.int .i64 0))⟩]) (.seq (.seq (.reg [⟨some 7,none,.ld (some 522) (.t 2)⟩,⟨some 8,none,.ld (some 8) (.t 3)⟩,⟨some 9,none,.bsl 25 1 8 [(8,(.int .u8 0))] [(0,8,(.t 8))]⟩,⟨some 10,none,.call 27 [(.t 7),(.t 9)]⟩,⟨some 6,none,.mov (.t 10)⟩]) (.seq (.reg [⟨some 11,none,.mov (.t 6)⟩,⟨some 12,none,.bin .neq (.t 11) (.c (.int .i64 0))⟩]) (.cond (.t 12) (.seq (.reg [⟨some 13,none,.mov (.t 6)⟩,⟨some 4,none,.mov (.c (.int .i64 0))⟩,⟨some 5,none,.mov (.t 13)⟩]) .ret) .skip))) (.seq (.drwo true [7] [0,1,2,3,4,5,6,7,8,9] [⟨some 14,none,.fa 0 (.t 2)⟩,⟨some 15,none,.ld none (.t 14)⟩,⟨some 16,none,.fa 1 (.t 2)⟩,⟨some 17,none,.ld none (.t 16)⟩,⟨some 18,none,.ld (some 522) (.t 2)⟩,⟨some 19,none,.ld (some 8) (.t 3)⟩,⟨some 20,none,.call 38 [(.t 18),(.t 19)]⟩,⟨some 21,none,.call 52 [(.t 15),(.t 17),(.t 20)]⟩,⟨some 4,none,.mov (.t 21)⟩,⟨some 5,none,.mov (.c (.int .i64 0))⟩]) .ret)))

set_option maxRecDepth 100000 in
theorem tr22 : trFn Tryz.prog Tryz.f22 = some (22, ir22, [.tmp 4, .tmp 5]) := by kernel_rfl

theorem spec_TraceOf (p n' : Int) (u m v : Nat → Int) (K : Nat → SV) (H : Hp) (n : Nat) (h0 : K 0 = .int .i64 p) (h1 : K 1 = .int .i64 n')
    (hU : ∀ q, q < 8 → K (2 + q) = .int .u8 (u q)) (hK : ∀ q, q < 512 → K (10 + q) = .int .u8 (m q)) (hu : isBy 8 u) (hm : isBy 512 m) (hv : isBy 8 v) :
    FnS Tryz.prog 22 [.arr 522 K, .arr 8 (bys v)] H n (fun r H' _ => r = .tup [i64 (ivN (isAlg p n' u m ∧ isVec p n' v) (trcN p (lft p m v n'.toNat) n'.toNat)), i64 (cd (isAlg p n' u m ∧ isVec p n' v))] ∧ H' = H) := by
  refine FnS.of_body Tryz.func22 tr22 (by simp) (fun hf => ?_)
  dsimp only [argEnv]
  unfold ir22
  (repeat first|refine zG ?_|(refine LS.nilO ?_;intro nq hnq hltq;try refine zU ?_)|(refine MS.new ?_;intro bq hbq hbqf;try refine zU ?_)|(refine MS.nil ?_;intro nq hnq hltq;have hlq:=hltq _ _ (Hp.get_eq _ _ _);clear hltq;try refine zU ?_)|(refine LS.nilQ ?_;try with_reducible intro nq hnq;try refine zU ?_))
  refine RS.call rfl ((FnS.args (concs_cons (conc_arr (fun q hq => rfl)) rfl) (spec_l01CodeL p n' u m v 1 (n + 2) _ K _ _ (by omega) h0 h1 hU hK hu hm hv (by exact zH) (by simp) (fun q hq => by (try dsimp only); unfold splice; rw [if_pos (by omega)]; simp only [Nat.sub_zero]; rfl))).mono ?_)
  rintro r H' n2 hn2 ⟨rfl, rfl⟩
  rw [cd_iff one_iff]
  (repeat first|refine zG ?_|(refine LS.nilO ?_;intro nq hnq hltq;try refine zU ?_)|(refine MS.new ?_;intro bq hbq hbqf;try refine zU ?_)|(refine MS.nil ?_;intro nq hnq hltq;have hlq:=hltq _ _ (Hp.get_eq _ _ _);clear hltq;try refine zU ?_)|(refine LS.nilQ ?_;try with_reducible intro nq hnq;try refine zU ?_))
  refine zI ?_ ?_<;>intro h2
  · have h3 : ¬(isAlg p n' u m ∧ isVec p n' v) := fun q => h2 (cdz.2 q)
    (repeat first|refine zG ?_|(refine LS.nilO ?_;intro nq hnq hltq;try refine zU ?_)|(refine MS.new ?_;intro bq hbq hbqf;try refine zU ?_)|(refine MS.nil ?_;intro nq hnq hltq;have hlq:=hltq _ _ (Hp.get_eq _ _ _);clear hltq;try refine zU ?_)|(refine LS.nilQ ?_;try with_reducible intro nq hnq;try refine zU ?_))
    exact ⟨.tup [i64 (ivN (isAlg p n' u m ∧ isVec p n' v) (trcN p (lft p m v n'.toNat) n'.toNat)), i64 (cd (isAlg p n' u m ∧ isVec p n' v))], H, by rw [ivN_f h3], by exact zD, rfl, rfl⟩
  · have h3 : isAlg p n' u m ∧ isVec p n' v := cdz.1 h2
    obtain ⟨a, rfl, hW⟩ := algW_of h3 hu hv
    rw [Int.toNat_natCast]
    have hb := isP_le hW.hp
    have ha := hW.ha
    have h1' : K (0 + 1) = .int .i64 (a : Nat) := h1
    (repeat first|refine zG ?_|(refine LS.nilO ?_;intro nq hnq hltq;try refine zU ?_)|(refine MS.new ?_;intro bq hbq hbqf;try refine zU ?_)|(refine MS.nil ?_;intro nq hnq hltq;have hlq:=hltq _ _ (Hp.get_eq _ _ _);clear hltq;try refine zU ?_)|(refine LS.nilQ ?_;try with_reducible intro nq hnq;try refine zU ?_))
    refine CS.tailLo _ (List.Mem.head _) ?_; dsimp only [List.take, List.drop]
    (repeat first|refine zG ?_|(refine LS.nilO ?_;intro nq hnq hltq;try refine zU ?_)|(refine MS.new ?_;intro bq hbq hbqf;try refine zU ?_)|(refine MS.nil ?_;intro nq hnq hltq;have hlq:=hltq _ _ (Hp.get_eq _ _ _);clear hltq;try refine zU ?_)|(refine LS.nilQ ?_;try with_reducible intro nq hnq;try refine zU ?_))
    refine LS.callQ (.arr 64 (bys (lft p m v a))) rfl (fun n' hn' => FnS.args (concs_cons (conc_arr (fun q hq => rfl)) (concs_cons (conc_arr (fun q hq => rfl)) rfl)) (spec_l01Left p a m v K _ _ hb ha h0 h1 hK hm hv)) ?_
    (repeat first|refine zG ?_|(refine LS.nilO ?_;intro nq hnq hltq;try refine zU ?_)|(refine MS.new ?_;intro bq hbq hbqf;try refine zU ?_)|(refine MS.nil ?_;intro nq hnq hltq;have hlq:=hltq _ _ (Hp.get_eq _ _ _);clear hltq;try refine zU ?_)|(refine LS.nilQ ?_;try with_reducible intro nq hnq;try refine zU ?_))
    refine RS.call rfl ((spec_l01Trace p a (lft p m v a) _ _ hb ha (isRes.by (lft_res hb.1 m v a 64) hb.2)).mono ?_)
    rintro r H' n3 hn3 ⟨rfl, rfl⟩
    (repeat first|refine zG ?_|(refine LS.nilO ?_;intro nq hnq hltq;try refine zU ?_)|(refine MS.new ?_;intro bq hbq hbqf;try refine zU ?_)|(refine MS.nil ?_;intro nq hnq hltq;have hlq:=hltq _ _ (Hp.get_eq _ _ _);clear hltq;try refine zU ?_)|(refine LS.nilQ ?_;try with_reducible intro nq hnq;try refine zU ?_))
    exact ⟨.tup [i64 (ivN (isAlg p (a : Nat) u m ∧ isVec p (a : Nat) v) (trcN p (lft p m v a) a)), i64 (cd (isAlg p (a : Nat) u m ∧ isVec p (a : Nat) v))], H, by rw [ivN_t h3, cd_true h3], by exact zD, rfl, rfl⟩

/-- impl.TraceOf -/
def ir23 : Cd := (.seq (.reg [⟨some 2,none,.box 31 (.t 0)⟩,⟨some 3,none,.box 25 (.t 1)⟩,⟨some 4,none,.mov (.c (.int .i64 0))⟩,⟨some 5,none,.mov (.c (.int .i64 0))⟩]) (.seq (.seq (.reg [⟨some 7,none,.ld (some 8) (.t 3)⟩,⟨some 8,none,.bsl 25 1 8 [(8,(.int .u8 0))] [(0,8,(.t 7))]⟩,⟨some 9,none,.call 29 [(.t 2),(.t 8)]⟩,⟨some 6,none,.mov (.t 9)⟩]) (.seq (.reg [⟨some 10,none,.mov (.t 6)⟩,⟨some 11,none,.bin .neq (.t 10) (.c (.int .i64 0))⟩]) (.cond (.t 11) (.seq (.reg [⟨some 12,none,.mov (.t 6)⟩,⟨some 4,none,.mov (.c (.int .i64 0))⟩,⟨some 5,none,.mov (.t 12)⟩]) .ret) .skip))) (.seq (.drwo true [2,3] [1,0,2,3,4,5] [⟨some 13,none,.call 53 [(.t 2)]⟩,⟨some 14,none,.ld (some 8) (.t 3)⟩,⟨some 15,none,.call 32 [(.t 2),(.t 14)]⟩,⟨some 16,none,.call 54 [(.t 13),(.t 15)]⟩,⟨some 4,none,.mov (.t 16)⟩,⟨some 5,none,.mov (.c (.int .i64 0))⟩]) .ret)))

set_option maxRecDepth 100000 in
theorem tr23 : trFn Tryz.prog Tryz.f23 = some (17, ir23, [.tmp 4, .tmp 5]) := by kernel_rfl

theorem impl_TraceOf (p n' : Int) (u m v : Nat → Int) (K : Nat → SV) (H : Hp) (n : Nat) (h0 : K 0 = .int .i64 p) (h1 : K 1 = .int .i64 n')
    (hU : ∀ q, q < 8 → K (2 + q) = .int .u8 (u q)) (hK : ∀ q, q < 512 → K (10 + q) = .int .u8 (m q)) (hu : isBy 8 u) (hm : isBy 512 m) (hv : isBy 8 v) :
    FnS Tryz.prog 23 [.arr 522 K, .arr 8 (bys v)] H n (fun r H' _ => r = .tup [i64 (ivN (isAlg p n' u m ∧ isVec p n' v) (trcN p (lft p m v n'.toNat) n'.toNat)), i64 (cd (isAlg p n' u m ∧ isVec p n' v))] ∧ H' = H) := by
  refine FnS.of_body Tryz.func23 tr23 (by simp) (fun hf => ?_)
  dsimp only [argEnv]
  unfold ir23
  (repeat first|refine zG ?_|(refine LS.nilO ?_;intro nq hnq hltq;try refine zU ?_)|(refine MS.new ?_;intro bq hbq hbqf;try refine zU ?_)|(refine MS.nil ?_;intro nq hnq hltq;have hlq:=hltq _ _ (Hp.get_eq _ _ _);clear hltq;try refine zU ?_)|(refine LS.nilQ ?_;try with_reducible intro nq hnq;try refine zU ?_))
  refine RS.call rfl ((Algebra_code p n' u m n (.slc (n + 2) 0 1 1) 1 (by omega) v _ _ _ (by exact zH) rfl h0 h1 hU hK hu hm (.inr ⟨n + 2, 0, 1, _, rfl, by exact zH, by simp, fun q hq => by (try dsimp only); unfold splice; rw [if_pos (by omega)]; simp only [Nat.sub_zero, Nat.zero_add]; rfl⟩) hv).mono ?_)
  rintro r H' n2 hn2 ⟨rfl, rfl⟩
  rw [cd_iff one_iff]
  (repeat first|refine zG ?_|(refine LS.nilO ?_;intro nq hnq hltq;try refine zU ?_)|(refine MS.new ?_;intro bq hbq hbqf;try refine zU ?_)|(refine MS.nil ?_;intro nq hnq hltq;have hlq:=hltq _ _ (Hp.get_eq _ _ _);clear hltq;try refine zU ?_)|(refine LS.nilQ ?_;try with_reducible intro nq hnq;try refine zU ?_))
  refine zI ?_ ?_<;>intro h2
  · have h3 : ¬(isAlg p n' u m ∧ isVec p n' v) := fun q => h2 (cdz.2 q)
    (repeat first|refine zG ?_|(refine LS.nilO ?_;intro nq hnq hltq;try refine zU ?_)|(refine MS.new ?_;intro bq hbq hbqf;try refine zU ?_)|(refine MS.nil ?_;intro nq hnq hltq;have hlq:=hltq _ _ (Hp.get_eq _ _ _);clear hltq;try refine zU ?_)|(refine LS.nilQ ?_;try with_reducible intro nq hnq;try refine zU ?_))
    exact ⟨.tup [i64 (ivN (isAlg p n' u m ∧ isVec p n' v) (trcN p (lft p m v n'.toNat) n'.toNat)), i64 (cd (isAlg p n' u m ∧ isVec p n' v))], H, by rw [ivN_f h3], by exact zD, rfl, rfl⟩
  · have h3 : isAlg p n' u m ∧ isVec p n' v := cdz.1 h2
    obtain ⟨a, rfl, hW⟩ := algW_of h3 hu hv
    rw [Int.toNat_natCast]
    have hb := isP_le hW.hp
    have ha := hW.ha
    have h1' : K (0 + 1) = .int .i64 (a : Nat) := h1
    (repeat first|refine zG ?_|(refine LS.nilO ?_;intro nq hnq hltq;try refine zU ?_)|(refine MS.new ?_;intro bq hbq hbqf;try refine zU ?_)|(refine MS.nil ?_;intro nq hnq hltq;have hlq:=hltq _ _ (Hp.get_eq _ _ _);clear hltq;try refine zU ?_)|(refine LS.nilQ ?_;try with_reducible intro nq hnq;try refine zU ?_))
    refine CS.tailLo _ (List.Mem.head _) ?_; dsimp only [List.take, List.drop]
    (repeat first|refine zG ?_|(refine LS.nilO ?_;intro nq hnq hltq;try refine zU ?_)|(refine MS.new ?_;intro bq hbq hbqf;try refine zU ?_)|(refine MS.nil ?_;intro nq hnq hltq;have hlq:=hltq _ _ (Hp.get_eq _ _ _);clear hltq;try refine zU ?_)|(refine LS.nilQ ?_;try with_reducible intro nq hnq;try refine zU ?_))
    refine LS.callQ (fld p a) rfl (fun n' hn' => Algebra_field p a n ⟨522, K, 31⟩ _ _ (by exact zH) rfl h0 h1 (by omega)) ?_
    (repeat first|refine zG ?_|(refine LS.nilO ?_;intro nq hnq hltq;try refine zU ?_)|(refine MS.new ?_;intro bq hbq hbqf;try refine zU ?_)|(refine MS.nil ?_;intro nq hnq hltq;have hlq:=hltq _ _ (Hp.get_eq _ _ _);clear hltq;try refine zU ?_)|(refine LS.nilQ ?_;try with_reducible intro nq hnq;try refine zU ?_))
    refine RS.call rfl ((FnS.args (concs_cons rfl (concs_cons (conc_arr (fun q hq => rfl)) rfl)) (Algebra_leftTable p a m v n ⟨522, K, 31⟩ _ _ hb ha (by exact zH) rfl h0 h1 hK hm hv)).mono ?_)
    rintro r H' n4 hn4 ⟨rfl, rfl⟩
    (repeat first|refine zG ?_|(refine LS.nilO ?_;intro nq hnq hltq;try refine zU ?_)|(refine MS.new ?_;intro bq hbq hbqf;try refine zU ?_)|(refine MS.nil ?_;intro nq hnq hltq;have hlq:=hltq _ _ (Hp.get_eq _ _ _);clear hltq;try refine zU ?_)|(refine LS.nilQ ?_;try with_reducible intro nq hnq;try refine zU ?_))
    refine RS.call rfl ((field_trace p a (lft p m v a) _ _ hb (isRes.by (lft_res hb.1 m v a 64) hb.2)).mono ?_)
    rintro r H' n3 hn3 ⟨rfl, rfl⟩
    (repeat first|refine zG ?_|(refine LS.nilO ?_;intro nq hnq hltq;try refine zU ?_)|(refine MS.new ?_;intro bq hbq hbqf;try refine zU ?_)|(refine MS.nil ?_;intro nq hnq hltq;have hlq:=hltq _ _ (Hp.get_eq _ _ _);clear hltq;try refine zU ?_)|(refine LS.nilQ ?_;try with_reducible intro nq hnq;try refine zU ?_))
    exact ⟨.tup [i64 (ivN (isAlg p (a : Nat) u m ∧ isVec p (a : Nat) v) (trcN p (lft p m v a) a)), i64 (cd (isAlg p (a : Nat) u m ∧ isVec p (a : Nat) v))], H, by rw [ivN_t h3, cd_true h3]; unfold trcN; rw [lft_dg p m v a ha], by exact zD, rfl, rfl⟩

end Go.Proofs.YtgnphaopeplfbaaGreatDoor

/- Powers of vectors, both sides. -/

namespace Go.V

set_option linter.unusedSimpArgs false

set_option linter.unusedVariables false

noncomputable def pwC (Q R : Prop) : Int := if tb Q = true then if tb R = true then 0 else 2 else 1

theorem pwC_1 {Q R : Prop} (h : ¬Q) : pwC Q R = 1 := by unfold pwC; rw [tb_false h]; rfl

theorem pwC_2 {Q R : Prop} (h : Q) (g : ¬R) : pwC Q R = 2 := by unfold pwC; rw [tb_true h, tb_false g]; rfl

theorem pwC_0 {Q R : Prop} (h : Q) (g : R) : pwC Q R = 0 := by unfold pwC; rw [tb_true h, tb_true g]; rfl

end Go.V

namespace Go.Proofs.YtgnphaopeplfbaaGreatDoor

open Go.V

variable [BW]

set_option linter.unusedSimpArgs false

set_option linter.unusedVariables false

set_option maxHeartbeats 4000000

/-- spec.PowerOf -/
def ir18 : Cd := (.seq (.reg [⟨some 3,none,.box 31 (.t 0)⟩,⟨some 4,none,.box 25 (.t 1)⟩,⟨some 6,none,.new 25 [(8,(.int .u8 0))]⟩,⟨some 7,none,.mov (.c (.int .i64 0))⟩]) (.seq (.seq (.reg [⟨some 10,none,.ld (some 522) (.t 3)⟩,⟨some 11,none,.ld (some 8) (.t 4)⟩,⟨some 12,none,.bsl 25 1 8 [(8,(.int .u8 0))] [(0,8,(.t 11))]⟩,⟨some 13,none,.call 27 [(.t 10),(.t 12)]⟩,⟨some 8,none,.mov (.t 13)⟩]) (.seq (.reg [⟨some 14,none,.mov (.t 8)⟩,⟨some 15,none,.bin .neq (.t 14) (.c (.int .i64 0))⟩]) (.cond (.t 15) (.seq (.reg [⟨some 16,none,.build 8 [(8,(.int .u8 0))] []⟩,⟨some 17,none,.mov (.t 8)⟩,⟨none,none,.st 8 (.t 6) (.t 16)⟩,⟨some 7,none,.mov (.t 17)⟩]) .ret) .skip))) (.seq (.seq (.reg [⟨some 18,none,.mov (.t 2)⟩,⟨some 19,none,.call 47 [(.t 18),(.c (.int .i64 0)),(.c (.int .i64 100))]⟩,⟨some 20,none,.un .not (.t 19)⟩]) (.cond (.t 20) (.seq (.reg [⟨some 21,none,.build 8 [(8,(.int .u8 0))] []⟩,⟨none,none,.st 8 (.t 6) (.t 21)⟩,⟨some 7,none,.mov (.c (.int .i64 2))⟩]) .ret) .skip)) (.seq (.reg [⟨some 22,none,.fa 2 (.t 3)⟩,⟨some 23,none,.ld (some 8) (.t 22)⟩,⟨some 9,none,.new 25 [(8,(.int .u8 0))]⟩,⟨none,none,.st 8 (.t 9) (.t 23)⟩]) (.seq (.block 0 (.loop (.seq (.seq (.reg [⟨some 24,none,.mov (.t 2)⟩,⟨some 25,none,.bin .gtr (.t 24) (.c (.int .i64 0))⟩]) (.cond (.t 25) .skip (.exit 0))) (.seq (.block 1 (.reg [⟨some 28,none,.ld (some 522) (.t 3)⟩,⟨some 29,none,.ld (some 8) (.t 9)⟩,⟨some 30,none,.ld (some 8) (.t 4)⟩,⟨some 31,none,.call 28 [(.t 28),(.t 29),(.t 30)]⟩,⟨none,none,.st 8 (.t 9) (.t 31)⟩])) (.reg [⟨some 26,none,.mov (.t 2)⟩,⟨some 27,none,.bin .sub (.t 26) (.c (.int .i64 1))⟩,⟨some 2,none,.mov (.t 27)⟩]))))) (.seq (.reg [⟨some 32,none,.ld (some 8) (.t 9)⟩,⟨none,none,.st 8 (.t 6) (.t 32)⟩,⟨some 7,none,.mov (.c (.int .i64 0))⟩]) .ret))))))

set_option maxRecDepth 100000 in
theorem tr18 : trFn Tryz.prog Tryz.f18 = some (33, ir18, [.cell (some 8) 6, .tmp 7]) := by kernel_rfl

theorem spec_PowerOf (p n' k : Int) (u m v : Nat → Int) (K : Nat → SV) (H : Hp) (n : Nat) (h0 : K 0 = .int .i64 p) (h1 : K 1 = .int .i64 n')
    (hU : ∀ q, q < 8 → K (2 + q) = .int .u8 (u q)) (hK : ∀ q, q < 512 → K (10 + q) = .int .u8 (m q)) (hu : isBy 8 u) (hm : isBy 512 m) (hv : isBy 8 v) :
    FnS Tryz.prog 18 [.arr 522 K, .arr 8 (bys v), i64 k] H n (fun r H' _ => r = .tup [.arr 8 (bys (ivX ((isAlg p n' u m ∧ isVec p n' v) ∧ 0 ≤ k ∧ k ≤ 100) (pw p m u v n'.toNat k.toNat))), i64 (pwC (isAlg p n' u m ∧ isVec p n' v) (0 ≤ k ∧ k ≤ 100))] ∧ H' = H) := by
  refine FnS.of_body Tryz.func18 tr18 (by simp) (fun hf => ?_)
  dsimp only [argEnv]
  unfold ir18
  (repeat first|refine zG ?_|(refine LS.nilO ?_;intro nq hnq hltq;try refine zU ?_)|(refine MS.new ?_;intro bq hbq hbqf;try refine zU ?_)|(refine MS.nil ?_;intro nq hnq hltq;have hlq:=hltq _ _ (Hp.get_eq _ _ _);clear hltq;try refine zU ?_)|(refine LS.nilQ ?_;try with_reducible intro nq hnq;try refine zU ?_))
  refine RS.call rfl ((FnS.args (concs_cons (conc_arr (fun q hq => rfl)) rfl) (spec_l01CodeL p n' u m v 1 (n + 3) _ K _ _ (by omega) h0 h1 hU hK hu hm hv (by exact zH) (by simp) (fun q hq => by (try dsimp only); unfold splice; rw [if_pos (by omega)]; simp only [Nat.sub_zero]; rfl))).mono ?_)
  rintro r H' n2 hn2 ⟨rfl, rfl⟩
  rw [cd_iff one_iff]
  (repeat first|refine zG ?_|(refine LS.nilO ?_;intro nq hnq hltq;try refine zU ?_)|(refine MS.new ?_;intro bq hbq hbqf;try refine zU ?_)|(refine MS.nil ?_;intro nq hnq hltq;have hlq:=hltq _ _ (Hp.get_eq _ _ _);clear hltq;try refine zU ?_)|(refine LS.nilQ ?_;try with_reducible intro nq hnq;try refine zU ?_))
  refine zI ?_ ?_<;>intro h2
  · have h3 : ¬(isAlg p n' u m ∧ isVec p n' v) := fun q => h2 (cdz.2 q)
    have h3' : ¬((isAlg p n' u m ∧ isVec p n' v) ∧ 0 ≤ k ∧ k ≤ 100) := fun q => h3 q.1
    (repeat first|refine zG ?_|(refine LS.nilO ?_;intro nq hnq hltq;try refine zU ?_)|(refine MS.new ?_;intro bq hbq hbqf;try refine zU ?_)|(refine MS.nil ?_;intro nq hnq hltq;have hlq:=hltq _ _ (Hp.get_eq _ _ _);clear hltq;try refine zU ?_)|(refine LS.nilQ ?_;try with_reducible intro nq hnq;try refine zU ?_))
    exact ⟨.tup [.arr 8 (bys (ivX ((isAlg p n' u m ∧ isVec p n' v) ∧ 0 ≤ k ∧ k ≤ 100) (pw p m u v n'.toNat k.toNat))), i64 (pwC (isAlg p n' u m ∧ isVec p n' v) (0 ≤ k ∧ k ≤ 100))], H, conc_tup2 (conc_arr (fun q hq => by rw [ivX_f h3']; first | rfl | (simp only [Nat.zero_add]; rfl))) (by rw [pwC_1 h3, cd_false h3]), by exact zD, rfl, rfl⟩
  · have h3 : isAlg p n' u m ∧ isVec p n' v := cdz.1 h2
    obtain ⟨a, rfl, hW⟩ := algW_of h3 hu hv
    rw [Int.toNat_natCast]
    have hb := isP_le hW.hp
    have ha := hW.ha
    (repeat first|refine zG ?_|(refine LS.nilO ?_;intro nq hnq hltq;try refine zU ?_)|(refine MS.new ?_;intro bq hbq hbqf;try refine zU ?_)|(refine MS.nil ?_;intro nq hnq hltq;have hlq:=hltq _ _ (Hp.get_eq _ _ _);clear hltq;try refine zU ?_)|(refine LS.nilQ ?_;try with_reducible intro nq hnq;try refine zU ?_))
    refine RS.call rfl ((spec_l01In k 0 100 _ _).mono ?_)
    rintro r H' n3 hn3 ⟨rfl, rfl⟩
    (repeat first|refine zG ?_|(refine LS.nilO ?_;intro nq hnq hltq;try refine zU ?_)|(refine MS.new ?_;intro bq hbq hbqf;try refine zU ?_)|(refine MS.nil ?_;intro nq hnq hltq;have hlq:=hltq _ _ (Hp.get_eq _ _ _);clear hltq;try refine zU ?_)|(refine LS.nilQ ?_;try with_reducible intro nq hnq;try refine zU ?_))
    refine zI ?_ ?_<;>intro h4
    · have h5 : ¬((isAlg p (a : Nat) u m ∧ isVec p (a : Nat) v) ∧ 0 ≤ k ∧ k ≤ 100) := fun q => h4 q.2
      (repeat first|refine zG ?_|(refine LS.nilO ?_;intro nq hnq hltq;try refine zU ?_)|(refine MS.new ?_;intro bq hbq hbqf;try refine zU ?_)|(refine MS.nil ?_;intro nq hnq hltq;have hlq:=hltq _ _ (Hp.get_eq _ _ _);clear hltq;try refine zU ?_)|(refine LS.nilQ ?_;try with_reducible intro nq hnq;try refine zU ?_))
      exact ⟨.tup [.arr 8 (bys (ivX ((isAlg p (a : Nat) u m ∧ isVec p (a : Nat) v) ∧ 0 ≤ k ∧ k ≤ 100) (pw p m u v a k.toNat))), i64 (pwC (isAlg p (a : Nat) u m ∧ isVec p (a : Nat) v) (0 ≤ k ∧ k ≤ 100))], H, conc_tup2 (conc_arr (fun q hq => by rw [ivX_f h5]; first | rfl | (simp only [Nat.zero_add]; rfl))) (by rw [pwC_2 h3 h4]), by exact zD, rfl, rfl⟩
    · (repeat first|refine zG ?_|(refine LS.nilO ?_;intro nq hnq hltq;try refine zU ?_)|(refine MS.new ?_;intro bq hbq hbqf;try refine zU ?_)|(refine MS.nil ?_;intro nq hnq hltq;have hlq:=hltq _ _ (Hp.get_eq _ _ _);clear hltq;try refine zU ?_)|(refine LS.nilQ ?_;try with_reducible intro nq hnq;try refine zU ?_))
      obtain ⟨c, rfl⟩ := Int.eq_ofNat_of_zero_le h4.1
      have hc100 : c ≤ 100 := by omega
      have hru := hW.ru
      refine CS.iter c (fun i => [(2, i64 (((c - i : Nat) : Int))), (3, ptr n 0), (4, ptr (n + 1) 0), (6, ptr (n + 2) 0), (9, ptr n3 0)])
        (fun i => (n3, ⟨8, bys (pw p m u v a i), 25⟩) :: (n + 2, ⟨8, fun _ => .int .u8 0, 25⟩) :: (n + 1, ⟨8, bys v, 25⟩) :: (n, ⟨522, K, 31⟩) :: H) (fun _ => True) (by (repeat first | exact trivial | refine And.intro rfl ?_))
        (Drops.keepc rfl rfl (fun _ _ => rfl) (Drops.drop (by omega) (by simp (disch := omega) only [Hp.get_ne]; exact hf _ (by omega)) (Drops.keepc rfl rfl (fun q hq => by
          have hq' : q < 8 := by simpa [Zs.size] using hq
          rcases (show q = 0 ∨ q = 1 ∨ q = 2 ∨ q = 3 ∨ q = 4 ∨ q = 5 ∨ q = 6 ∨ q = 7 by omega) with rfl | rfl | rfl | rfl | rfl | rfl | rfl | rfl <;> rfl) (Drops.refl _ _)))) trivial ?_
      intro i n4 hi hn4 _
      (repeat first|refine zG ?_|(refine LS.nilO ?_;intro nq hnq hltq;try refine zU ?_)|(refine MS.new ?_;intro bq hbq hbqf;try refine zU ?_)|(refine MS.nil ?_;intro nq hnq hltq;have hlq:=hltq _ _ (Hp.get_eq _ _ _);clear hltq;try refine zU ?_)|(refine LS.nilQ ?_;try with_reducible intro nq hnq;try refine zU ?_))
      refine zI ?_ ?_<;>intro h6
      · have hi' : i < c := by omega
        have hpb : isBy 8 (pw p m u v a i) := isRes.by (pw_res hb.1 hru i) hb.2
        (repeat first|refine zG ?_|(refine LS.nilO ?_;intro nq hnq hltq;try refine zU ?_)|(refine MS.new ?_;intro bq hbq hbqf;try refine zU ?_)|(refine MS.nil ?_;intro nq hnq hltq;have hlq:=hltq _ _ (Hp.get_eq _ _ _);clear hltq;try refine zU ?_)|(refine LS.nilQ ?_;try with_reducible intro nq hnq;try refine zU ?_))
        refine RS.call rfl ((FnS.args (concs_cons (conc_arr (fun q hq => rfl)) (concs_cons (conc_arr (fun q hq => rfl)) (concs_cons (conc_arr (fun q hq => rfl)) rfl))) (spec_l01Times p a m (pw p m u v a i) v K _ _ hb ha h0 h1 hK hm hpb hv)).mono ?_)
        rintro r H' n5 hn5 ⟨rfl, rfl⟩
        (repeat first|refine zG ?_|(refine LS.nilO ?_;intro nq hnq hltq;try refine zU ?_)|(refine MS.new ?_;intro bq hbq hbqf;try refine zU ?_)|(refine MS.nil ?_;intro nq hnq hltq;have hlq:=hltq _ _ (Hp.get_eq _ _ _);clear hltq;try refine zU ?_)|(refine LS.nilQ ?_;try with_reducible intro nq hnq;try refine zU ?_))
        have e : ((c - i : Nat) : Int) - 1 = ((c - (i + 1) : Nat) : Int) := by omega
        refine ⟨by omega, by rw [← e]; (repeat first | exact trivial | refine And.intro rfl ?_), Drops.keepc rfl rfl (fun q hq => ?_) (Drops.refl _ _), trivial⟩
        first | rfl | exact splice_all _ _ 8 q hq
      · obtain rfl : i = c := by omega
        (repeat first|refine zG ?_|(refine LS.nilO ?_;intro nq hnq hltq;try refine zU ?_)|(refine MS.new ?_;intro bq hbq hbqf;try refine zU ?_)|(refine MS.nil ?_;intro nq hnq hltq;have hlq:=hltq _ _ (Hp.get_eq _ _ _);clear hltq;try refine zU ?_)|(refine LS.nilQ ?_;try with_reducible intro nq hnq;try refine zU ?_))
        exact ⟨.tup [.arr 8 (bys (ivX ((isAlg p (a : Nat) u m ∧ isVec p (a : Nat) v) ∧ 0 ≤ (i : Int) ∧ (i : Int) ≤ 100) (pw p m u v a (i : Int).toNat))), i64 (pwC (isAlg p (a : Nat) u m ∧ isVec p (a : Nat) v) (0 ≤ (i : Int) ∧ (i : Int) ≤ 100))], H, conc_tup2 (conc_arr (fun q hq => by rw [ivX_t ⟨h3, h4⟩, Nat.zero_add, Int.toNat_natCast])) (by rw [pwC_0 h3 h4]), by exact zD, rfl, rfl⟩

end Go.Proofs.YtgnphaopeplfbaaGreatDoor

/- Powers of vectors, the program's. -/

namespace Go.Proofs.YtgnphaopeplfbaaGreatDoor

open Go.V

variable [BW]

set_option linter.unusedSimpArgs false

set_option linter.unusedVariables false

set_option maxHeartbeats 4000000

theorem impl_unlessC (Q : Prop) (c : Int) (H : Hp) (n : Nat) :
    FnS Tryz.prog 49 [bl (tb Q), i64 c] H n (fun r H' _ => r = i64 (if tb Q = true then 0 else c) ∧ H' = H) := by
  refine FnS.of_body Tryz.func49 tr49 (by simp) (fun hf => ?_)
  dsimp only [argEnv]
  unfold ir49
  (repeat first|refine zG ?_|(refine LS.nilO ?_;intro nq hnq hltq;try refine zU ?_)|(refine MS.new ?_;intro bq hbq hbqf;try refine zU ?_)|(refine MS.nil ?_;intro nq hnq hltq;have hlq:=hltq _ _ (Hp.get_eq _ _ _);clear hltq;try refine zU ?_)|(refine LS.nilQ ?_;try with_reducible intro nq hnq;try refine zU ?_))
  refine zI ?_ ?_<;>intro h1
  · (repeat first|refine zG ?_|(refine LS.nilO ?_;intro nq hnq hltq;try refine zU ?_)|(refine MS.new ?_;intro bq hbq hbqf;try refine zU ?_)|(refine MS.nil ?_;intro nq hnq hltq;have hlq:=hltq _ _ (Hp.get_eq _ _ _);clear hltq;try refine zU ?_)|(refine LS.nilQ ?_;try with_reducible intro nq hnq;try refine zU ?_))
    exact ⟨_, H, rfl, by exact zD, by rw [if_pos (tb_true h1)], rfl⟩
  · (repeat first|refine zG ?_|(refine LS.nilO ?_;intro nq hnq hltq;try refine zU ?_)|(refine MS.new ?_;intro bq hbq hbqf;try refine zU ?_)|(refine MS.nil ?_;intro nq hnq hltq;have hlq:=hltq _ _ (Hp.get_eq _ _ _);clear hltq;try refine zU ?_)|(refine LS.nilQ ?_;try with_reducible intro nq hnq;try refine zU ?_))
    exact ⟨_, H, rfl, by exact zD, by rw [tb_false h1, if_neg (by simp)], rfl⟩

/-- impl.first -/
def ir48 : Cd := (.seq (.reg [⟨some 2,none,.mov (.c (.int .i64 0))⟩]) (.seq (.seq (.reg [⟨some 5,none,.mov (.t 0)⟩,⟨some 6,none,.len (.t 5)⟩,⟨some 7,none,.mov (.c (.int .i64 0))⟩]) (.block 0 (.loop (.seq (.reg [⟨some 8,none,.bin .lss (.t 7) (.t 6)⟩]) (.seq (.cond (.t 8) .skip (.exit 0)) (.seq (.block 1 (.seq (.reg [⟨some 9,none,.isl 1 (.t 5) (.t 7)⟩,⟨some 10,none,.ld none (.t 9)⟩,⟨some 4,none,.mov (.t 10)⟩]) (.seq (.reg [⟨some 11,none,.mov (.t 4)⟩,⟨some 12,none,.bin .neq (.t 11) (.c (.int .i64 0))⟩]) (.cond (.t 12) (.seq (.reg [⟨some 13,none,.mov (.t 4)⟩,⟨some 2,none,.mov (.t 13)⟩]) .ret) .skip)))) (.reg [⟨some 14,none,.bin .add (.t 7) (.c (.int .i64 1))⟩,⟨some 7,none,.mov (.t 14)⟩]))))))) (.seq (.reg [⟨some 2,none,.mov (.c (.int .i64 0))⟩]) .ret)))

set_option maxRecDepth 100000 in
theorem tr48 : trFn Tryz.prog Tryz.f48 = some (15, ir48, [.tmp 2]) := by kernel_rfl

theorem impl_first2 (x y : Int) (b : Nat) (K : Blk) (H : Hp) (n : Nat) (hb : H.get b = some K) (hs : 2 ≤ K.size) (h0 : K.c (0 + 0 * 1) = .int .i64 x) (h1 : K.c (0 + 1 * 1) = .int .i64 y) :
    FnS Tryz.prog 48 [.s (.slc b 0 2 2)] H n (fun r H' _ => r = i64 (if x = 0 then y else x) ∧ H' = H) := by
  refine FnS.of_body Tryz.func48 tr48 (by simp) (fun hf => ?_)
  dsimp only [argEnv]
  unfold ir48
  have hbn := getlt hf hb
  (repeat first|refine zG ?_|(refine LS.nilO ?_;intro nq hnq hltq;try refine zU ?_)|(refine MS.new ?_;intro bq hbq hbqf;try refine zU ?_)|(refine MS.nil ?_;intro nq hnq hltq;have hlq:=hltq _ _ (Hp.get_eq _ _ _);clear hltq;try refine zU ?_)|(refine LS.nilQ ?_;try with_reducible intro nq hnq;try refine zU ?_))
  refine CS.iter 2 (fun i => [(7, i64 (i : Nat)), (6, i64 2), (5, .s (.slc b 0 2 2))]) (fun _ => H) (fun i => (1 ≤ i → x = 0) ∧ (2 ≤ i → y = 0)) (by (repeat first | exact trivial | refine And.intro rfl ?_)) (Drops.refl _ _) ⟨fun h => by omega, fun h => by omega⟩ ?_
  intro i n1 hi hn hJ
  (repeat first|refine zG ?_|(refine LS.nilO ?_;intro nq hnq hltq;try refine zU ?_)|(refine MS.new ?_;intro bq hbq hbqf;try refine zU ?_)|(refine MS.nil ?_;intro nq hnq hltq;have hlq:=hltq _ _ (Hp.get_eq _ _ _);clear hltq;try refine zU ?_)|(refine LS.nilQ ?_;try with_reducible intro nq hnq;try refine zU ?_))
  refine zI ?_ ?_<;>intro h2
  · rcases (show i = 0 ∨ i = 1 by omega) with rfl | rfl
    · (repeat first|refine zG ?_|(refine LS.nilO ?_;intro nq hnq hltq;try refine zU ?_)|(refine MS.new ?_;intro bq hbq hbqf;try refine zU ?_)|(refine MS.nil ?_;intro nq hnq hltq;have hlq:=hltq _ _ (Hp.get_eq _ _ _);clear hltq;try refine zU ?_)|(refine LS.nilQ ?_;try with_reducible intro nq hnq;try refine zU ?_))
      refine zI ?_ ?_<;>intro h3
      · (repeat first|refine zG ?_|(refine LS.nilO ?_;intro nq hnq hltq;try refine zU ?_)|(refine MS.new ?_;intro bq hbq hbqf;try refine zU ?_)|(refine MS.nil ?_;intro nq hnq hltq;have hlq:=hltq _ _ (Hp.get_eq _ _ _);clear hltq;try refine zU ?_)|(refine LS.nilQ ?_;try with_reducible intro nq hnq;try refine zU ?_))
        exact ⟨_, H, rfl, by exact zD, by rw [if_neg h3], rfl⟩
      · (repeat first|refine zG ?_|(refine LS.nilO ?_;intro nq hnq hltq;try refine zU ?_)|(refine MS.new ?_;intro bq hbq hbqf;try refine zU ?_)|(refine MS.nil ?_;intro nq hnq hltq;have hlq:=hltq _ _ (Hp.get_eq _ _ _);clear hltq;try refine zU ?_)|(refine LS.nilQ ?_;try with_reducible intro nq hnq;try refine zU ?_))
        exact ⟨by omega, by (repeat first | exact trivial | refine And.intro rfl ?_), Drops.refl _ _, fun _ => h3, fun h => by omega⟩
    · have hx := hJ.1 (by omega)
      (repeat first|refine zG ?_|(refine LS.nilO ?_;intro nq hnq hltq;try refine zU ?_)|(refine MS.new ?_;intro bq hbq hbqf;try refine zU ?_)|(refine MS.nil ?_;intro nq hnq hltq;have hlq:=hltq _ _ (Hp.get_eq _ _ _);clear hltq;try refine zU ?_)|(refine LS.nilQ ?_;try with_reducible intro nq hnq;try refine zU ?_))
      refine zI ?_ ?_<;>intro h3
      · (repeat first|refine zG ?_|(refine LS.nilO ?_;intro nq hnq hltq;try refine zU ?_)|(refine MS.new ?_;intro bq hbq hbqf;try refine zU ?_)|(refine MS.nil ?_;intro nq hnq hltq;have hlq:=hltq _ _ (Hp.get_eq _ _ _);clear hltq;try refine zU ?_)|(refine LS.nilQ ?_;try with_reducible intro nq hnq;try refine zU ?_))
        exact ⟨_, H, rfl, by exact zD, by rw [if_pos hx], rfl⟩
      · (repeat first|refine zG ?_|(refine LS.nilO ?_;intro nq hnq hltq;try refine zU ?_)|(refine MS.new ?_;intro bq hbq hbqf;try refine zU ?_)|(refine MS.nil ?_;intro nq hnq hltq;have hlq:=hltq _ _ (Hp.get_eq _ _ _);clear hltq;try refine zU ?_)|(refine LS.nilQ ?_;try with_reducible intro nq hnq;try refine zU ?_))
        exact ⟨by omega, by (repeat first | exact trivial | refine And.intro rfl ?_), Drops.refl _ _, fun _ => hx, fun h => h3⟩
  · obtain rfl : i = 2 := by omega
    have hx := hJ.1 (by omega)
    have hy := hJ.2 (by omega)
    (repeat first|refine zG ?_|(refine LS.nilO ?_;intro nq hnq hltq;try refine zU ?_)|(refine MS.new ?_;intro bq hbq hbqf;try refine zU ?_)|(refine MS.nil ?_;intro nq hnq hltq;have hlq:=hltq _ _ (Hp.get_eq _ _ _);clear hltq;try refine zU ?_)|(refine LS.nilQ ?_;try with_reducible intro nq hnq;try refine zU ?_))
    exact ⟨_, H, rfl, by exact zD, by rw [if_pos hx, hy], rfl⟩

/-- (*impl.Algebra).power -/
def ir51 : Cd := (.seq (.reg [⟨some 4,none,.box 25 (.t 1)⟩,⟨some 6,none,.new 25 [(8,(.int .u8 0))]⟩]) (.seq (.reg [⟨some 8,none,.mov (.t 0)⟩,⟨some 9,none,.ck (.t 8)⟩,⟨some 10,none,.fa 2 (.t 9)⟩,⟨some 11,none,.ld (some 8) (.t 10)⟩,⟨some 7,none,.new 25 [(8,(.int .u8 0))]⟩,⟨none,none,.st 8 (.t 7) (.t 11)⟩]) (.seq (.seq (.reg [⟨some 12,none,.mov (.t 2)⟩,⟨some 13,none,.mov (.c (.int .i64 0))⟩]) (.block 0 (.loop (.seq (.reg [⟨some 14,none,.bin .lss (.t 13) (.t 12)⟩]) (.seq (.cond (.t 14) .skip (.exit 0)) (.seq (.block 1 (.reg [⟨some 15,none,.mov (.t 0)⟩,⟨some 16,none,.ld (some 8) (.t 7)⟩,⟨some 17,none,.ld (some 8) (.t 4)⟩,⟨some 18,none,.call 30 [(.t 15),(.t 16),(.t 17)]⟩,⟨none,none,.st 8 (.t 7) (.t 18)⟩])) (.reg [⟨some 19,none,.bin .add (.t 13) (.c (.int .i64 1))⟩,⟨some 13,none,.mov (.t 19)⟩]))))))) (.seq (.reg [⟨some 20,none,.ld (some 8) (.t 7)⟩,⟨none,none,.st 8 (.t 6) (.t 20)⟩]) .ret))))

set_option maxRecDepth 100000 in
theorem tr51 : trFn Tryz.prog Tryz.f51 = some (21, ir51, [.cell (some 8) 6]) := by kernel_rfl

theorem Algebra_power (p : Int) (a c : Nat) (u m v : Nat → Int) (b : Nat) (K : Blk) (H : Hp) (n : Nat) (hp : 2 ≤ p ∧ p ≤ 31) (ha : a ≤ 8) (hc : c ≤ 1000) (hb : H.get b = some K) (hsz : K.size = 522) (h0 : K.c 0 = .int .i64 p) (h1 : K.c 1 = .int .i64 a)
    (hU : ∀ q, q < 8 → K.c (2 + q) = .int .u8 (u q)) (hK : ∀ q, q < 512 → K.c (10 + q) = .int .u8 (m q)) (hm : isBy 512 m) (hv : isBy 8 v) (hu : isRes p 8 u) :
    FnS Tryz.prog 51 [ptr b 0, .arr 8 (bys v), i64 c] H n (fun r H' _ => r = .arr 8 (bys (pw p m u v a c)) ∧ H' = H) := by
  have hU' : ∀ q, q < 8 → K.c (0 + 2 + q) = .int .u8 (u q) := hU
  refine FnS.of_body Tryz.func51 tr51 (by simp) (fun hf => ?_)
  dsimp only [argEnv]
  unfold ir51
  have hbn := getlt hf hb
  (repeat first|refine zG ?_|(refine LS.nilO ?_;intro nq hnq hltq;try refine zU ?_)|(refine MS.new ?_;intro bq hbq hbqf;try refine zU ?_)|(refine MS.nil ?_;intro nq hnq hltq;have hlq:=hltq _ _ (Hp.get_eq _ _ _);clear hltq;try refine zU ?_)|(refine LS.nilQ ?_;try with_reducible intro nq hnq;try refine zU ?_))
  refine CS.iter c (fun i => [(13, i64 (i : Nat)), (12, i64 (c : Nat)), (0, ptr b 0), (4, ptr n 0), (6, ptr (n + 1) 0), (7, ptr (n + 2) 0)])
    (fun i => (n + 2, ⟨8, bys (pw p m u v a i), 25⟩) :: (n + 1, ⟨8, fun _ => .int .u8 0, 25⟩) :: (n, ⟨8, bys v, 25⟩) :: H) (fun _ => True) (by (repeat first | exact trivial | refine And.intro rfl ?_))
    (Drops.keepc rfl rfl (fun q hq => by first | rfl | exact hU q (by simpa [Zs.size] using hq)) (Drops.keepc rfl rfl (fun q hq => by
      have hq' : q < 8 := by simpa [Zs.size] using hq
      rcases (show q = 0 ∨ q = 1 ∨ q = 2 ∨ q = 3 ∨ q = 4 ∨ q = 5 ∨ q = 6 ∨ q = 7 by omega) with rfl | rfl | rfl | rfl | rfl | rfl | rfl | rfl <;> rfl) (Drops.refl _ _))) trivial ?_
  intro i n4 hi hn4 _
  (repeat first|refine zG ?_|(refine LS.nilO ?_;intro nq hnq hltq;try refine zU ?_)|(refine MS.new ?_;intro bq hbq hbqf;try refine zU ?_)|(refine MS.nil ?_;intro nq hnq hltq;have hlq:=hltq _ _ (Hp.get_eq _ _ _);clear hltq;try refine zU ?_)|(refine LS.nilQ ?_;try with_reducible intro nq hnq;try refine zU ?_))
  refine zI ?_ ?_<;>intro h6
  · have hpb : isBy 8 (pw p m u v a i) := isRes.by (pw_res hp.1 hu i) hp.2
    (repeat first|refine zG ?_|(refine LS.nilO ?_;intro nq hnq hltq;try refine zU ?_)|(refine MS.new ?_;intro bq hbq hbqf;try refine zU ?_)|(refine MS.nil ?_;intro nq hnq hltq;have hlq:=hltq _ _ (Hp.get_eq _ _ _);clear hltq;try refine zU ?_)|(refine LS.nilQ ?_;try with_reducible intro nq hnq;try refine zU ?_))
    refine RS.call rfl ((Algebra_product p a m (pw p m u v a i) v b K _ _ hp ha (by exact zH) hsz h0 h1 hK hm hpb hv).mono ?_)
    rintro r H' n5 hn5 ⟨rfl, rfl⟩
    (repeat first|refine zG ?_|(refine LS.nilO ?_;intro nq hnq hltq;try refine zU ?_)|(refine MS.new ?_;intro bq hbq hbqf;try refine zU ?_)|(refine MS.nil ?_;intro nq hnq hltq;have hlq:=hltq _ _ (Hp.get_eq _ _ _);clear hltq;try refine zU ?_)|(refine LS.nilQ ?_;try with_reducible intro nq hnq;try refine zU ?_))
    refine ⟨by omega, by (repeat first | exact trivial | refine And.intro rfl ?_), Drops.keepc rfl rfl (fun q hq => ?_) (Drops.refl _ _), trivial⟩
    first | rfl | exact splice_all _ _ 8 q hq
  · obtain rfl : i = c := by omega
    (repeat first|refine zG ?_|(refine LS.nilO ?_;intro nq hnq hltq;try refine zU ?_)|(refine MS.new ?_;intro bq hbq hbqf;try refine zU ?_)|(refine MS.nil ?_;intro nq hnq hltq;have hlq:=hltq _ _ (Hp.get_eq _ _ _);clear hltq;try refine zU ?_)|(refine LS.nilQ ?_;try with_reducible intro nq hnq;try refine zU ?_))
    exact ⟨.arr 8 (bys (pw p m u v a i)), H, conc_arr (fun q hq => by first | rfl | (simp only [Nat.zero_add]; done) | (simp only [Nat.zero_add]; rfl)), by exact zD, rfl, rfl⟩

end Go.Proofs.YtgnphaopeplfbaaGreatDoor

/- Powers of vectors: the program's function. -/

namespace Go.V

set_option linter.unusedSimpArgs false

set_option linter.unusedVariables false

theorem pwC_is (Q R : Prop) : (if cd Q = 0 then (if tb R = true then (0 : Int) else 2) else cd Q) = pwC Q R := by
  by_cases hq : Q
  · rw [cd_true hq, if_pos rfl]
    by_cases hr : R
    · rw [pwC_0 hq hr, if_pos (tb_true hr)]
    · rw [pwC_2 hq hr, tb_false hr, if_neg (by simp)]
  · rw [cd_false hq, if_neg (by omega), pwC_1 hq]

theorem pwC_zero {Q R : Prop} (h : pwC Q R = 0) : Q ∧ R := by
  by_cases hq : Q
  · by_cases hr : R
    · exact ⟨hq, hr⟩
    · rw [pwC_2 hq hr] at h; omega
  · rw [pwC_1 hq] at h; omega

end Go.V

namespace Go.Proofs.YtgnphaopeplfbaaGreatDoor

open Go.V

variable [BW]

set_option linter.unusedSimpArgs false

set_option linter.unusedVariables false

set_option maxHeartbeats 4000000

/-- impl.PowerOf -/
def ir19 : Cd := (.seq (.reg [⟨some 3,none,.box 31 (.t 0)⟩,⟨some 4,none,.box 25 (.t 1)⟩,⟨some 6,none,.new 25 [(8,(.int .u8 0))]⟩,⟨some 7,none,.mov (.c (.int .i64 0))⟩]) (.seq (.seq (.reg [⟨some 9,none,.ld (some 8) (.t 4)⟩,⟨some 10,none,.bsl 25 1 8 [(8,(.int .u8 0))] [(0,8,(.t 9))]⟩,⟨some 11,none,.call 29 [(.t 3),(.t 10)]⟩,⟨some 12,none,.mov (.t 2)⟩,⟨some 13,none,.call 50 [(.t 12),(.c (.int .i64 0)),(.c (.int .i64 100))]⟩,⟨some 14,none,.call 49 [(.t 13),(.c (.int .i64 2))]⟩,⟨some 15,none,.bsl 2 2 1 [(1,(.int .i64 0))] [(0,1,(.t 11)),(1,1,(.t 14))]⟩,⟨some 16,none,.call 48 [(.t 15)]⟩,⟨some 8,none,.mov (.t 16)⟩]) (.seq (.reg [⟨some 17,none,.mov (.t 8)⟩,⟨some 18,none,.bin .neq (.t 17) (.c (.int .i64 0))⟩]) (.cond (.t 18) (.seq (.reg [⟨some 19,none,.build 8 [(8,(.int .u8 0))] []⟩,⟨some 20,none,.mov (.t 8)⟩,⟨none,none,.st 8 (.t 6) (.t 19)⟩,⟨some 7,none,.mov (.t 20)⟩]) .ret) .skip))) (.seq (.reg [⟨some 21,none,.ld (some 8) (.t 4)⟩,⟨some 22,none,.mov (.t 2)⟩,⟨some 23,none,.call 51 [(.t 3),(.t 21),(.t 22)]⟩,⟨none,none,.st 8 (.t 6) (.t 23)⟩,⟨some 7,none,.mov (.c (.int .i64 0))⟩]) .ret)))

set_option maxRecDepth 100000 in
theorem tr19 : trFn Tryz.prog Tryz.f19 = some (24, ir19, [.cell (some 8) 6, .tmp 7]) := by kernel_rfl

theorem impl_PowerOf (p n' k : Int) (u m v : Nat → Int) (K : Nat → SV) (H : Hp) (n : Nat) (h0 : K 0 = .int .i64 p) (h1 : K 1 = .int .i64 n')
    (hU : ∀ q, q < 8 → K (2 + q) = .int .u8 (u q)) (hK : ∀ q, q < 512 → K (10 + q) = .int .u8 (m q)) (hu : isBy 8 u) (hm : isBy 512 m) (hv : isBy 8 v) :
    FnS Tryz.prog 19 [.arr 522 K, .arr 8 (bys v), i64 k] H n (fun r H' _ => r = .tup [.arr 8 (bys (ivX ((isAlg p n' u m ∧ isVec p n' v) ∧ 0 ≤ k ∧ k ≤ 100) (pw p m u v n'.toNat k.toNat))), i64 (pwC (isAlg p n' u m ∧ isVec p n' v) (0 ≤ k ∧ k ≤ 100))] ∧ H' = H) := by
  refine FnS.of_body Tryz.func19 tr19 (by simp) (fun hf => ?_)
  dsimp only [argEnv]
  unfold ir19
  (repeat first|refine zG ?_|(refine LS.nilO ?_;intro nq hnq hltq;try refine zU ?_)|(refine MS.new ?_;intro bq hbq hbqf;try refine zU ?_)|(refine MS.nil ?_;intro nq hnq hltq;have hlq:=hltq _ _ (Hp.get_eq _ _ _);clear hltq;try refine zU ?_)|(refine LS.nilQ ?_;try with_reducible intro nq hnq;try refine zU ?_))
  refine RS.call rfl ((Algebra_code p n' u m n (.slc (n + 3) 0 1 1) 1 (by omega) v _ _ _ (by exact zH) rfl h0 h1 hU hK hu hm (.inr ⟨n + 3, 0, 1, _, rfl, by exact zH, by simp, fun q hq => by (try dsimp only); unfold splice; rw [if_pos (by omega)]; simp only [Nat.sub_zero, Nat.zero_add]; rfl⟩) hv).mono ?_)
  rintro r H' n2 hn2 ⟨rfl, rfl⟩
  rw [cd_iff one_iff]
  (repeat first|refine zG ?_|(refine LS.nilO ?_;intro nq hnq hltq;try refine zU ?_)|(refine MS.new ?_;intro bq hbq hbqf;try refine zU ?_)|(refine MS.nil ?_;intro nq hnq hltq;have hlq:=hltq _ _ (Hp.get_eq _ _ _);clear hltq;try refine zU ?_)|(refine LS.nilQ ?_;try with_reducible intro nq hnq;try refine zU ?_))
  refine RS.call rfl ((impl_in k 0 100 _ _).mono ?_)
  rintro r H' n3 hn3 ⟨rfl, rfl⟩
  (repeat first|refine zG ?_|(refine LS.nilO ?_;intro nq hnq hltq;try refine zU ?_)|(refine MS.new ?_;intro bq hbq hbqf;try refine zU ?_)|(refine MS.nil ?_;intro nq hnq hltq;have hlq:=hltq _ _ (Hp.get_eq _ _ _);clear hltq;try refine zU ?_)|(refine LS.nilQ ?_;try with_reducible intro nq hnq;try refine zU ?_))
  refine RS.call rfl ((FnS.args (concs_cons (show (bl (decide (0 ≤ k ∧ k ≤ 100))).conc = (bl (tb (0 ≤ k ∧ k ≤ 100))).conc by rw [tb_dec]) (concs_cons rfl rfl)) (impl_unlessC (0 ≤ k ∧ k ≤ 100) 2 _ _)).mono ?_)
  rintro r H' n4 hn4 ⟨rfl, rfl⟩
  (repeat first|refine zG ?_|(refine LS.nilO ?_;intro nq hnq hltq;try refine zU ?_)|(refine MS.new ?_;intro bq hbq hbqf;try refine zU ?_)|(refine MS.nil ?_;intro nq hnq hltq;have hlq:=hltq _ _ (Hp.get_eq _ _ _);clear hltq;try refine zU ?_)|(refine LS.nilQ ?_;try with_reducible intro nq hnq;try refine zU ?_))
  refine RS.call rfl ((impl_first2 (cd (isAlg p n' u m ∧ isVec p n' v)) (if tb (0 ≤ k ∧ k ≤ 100) = true then 0 else 2) _ _ _ _ (by exact zH) (by simp) rfl rfl).mono ?_)
  rintro r H' n5 hn5 ⟨rfl, rfl⟩
  rw [pwC_is]
  (repeat first|refine zG ?_|(refine LS.nilO ?_;intro nq hnq hltq;try refine zU ?_)|(refine MS.new ?_;intro bq hbq hbqf;try refine zU ?_)|(refine MS.nil ?_;intro nq hnq hltq;have hlq:=hltq _ _ (Hp.get_eq _ _ _);clear hltq;try refine zU ?_)|(refine LS.nilQ ?_;try with_reducible intro nq hnq;try refine zU ?_))
  refine zI ?_ ?_<;>intro h2
  · have h5 : ¬((isAlg p n' u m ∧ isVec p n' v) ∧ 0 ≤ k ∧ k ≤ 100) := fun q => h2 (pwC_0 q.1 q.2)
    (repeat first|refine zG ?_|(refine LS.nilO ?_;intro nq hnq hltq;try refine zU ?_)|(refine MS.new ?_;intro bq hbq hbqf;try refine zU ?_)|(refine MS.nil ?_;intro nq hnq hltq;have hlq:=hltq _ _ (Hp.get_eq _ _ _);clear hltq;try refine zU ?_)|(refine LS.nilQ ?_;try with_reducible intro nq hnq;try refine zU ?_))
    exact ⟨.tup [.arr 8 (bys (ivX ((isAlg p n' u m ∧ isVec p n' v) ∧ 0 ≤ k ∧ k ≤ 100) (pw p m u v n'.toNat k.toNat))), i64 (pwC (isAlg p n' u m ∧ isVec p n' v) (0 ≤ k ∧ k ≤ 100))], H, conc_tup2 (conc_arr (fun q hq => by rw [ivX_f h5]; first | rfl | (simp only [Nat.zero_add]; rfl))) rfl, by exact zD, rfl, rfl⟩
  · obtain ⟨h3, h4⟩ := pwC_zero h2
    obtain ⟨a, rfl, hW⟩ := algW_of h3 hu hv
    rw [Int.toNat_natCast]
    have hb := isP_le hW.hp
    have ha := hW.ha
    obtain ⟨c, rfl⟩ := Int.eq_ofNat_of_zero_le h4.1
    (repeat first|refine zG ?_|(refine LS.nilO ?_;intro nq hnq hltq;try refine zU ?_)|(refine MS.new ?_;intro bq hbq hbqf;try refine zU ?_)|(refine MS.nil ?_;intro nq hnq hltq;have hlq:=hltq _ _ (Hp.get_eq _ _ _);clear hltq;try refine zU ?_)|(refine LS.nilQ ?_;try with_reducible intro nq hnq;try refine zU ?_))
    refine RS.call rfl ((FnS.args (concs_cons rfl (concs_cons (conc_arr (fun q hq => rfl)) (concs_cons rfl rfl))) (Algebra_power p a c u m v n _ _ _ hb ha (by omega) (by exact zH) rfl h0 h1 hU hK hm hv hW.ru)).mono ?_)
    rintro r H' n6 hn6 ⟨rfl, rfl⟩
    (repeat first|refine zG ?_|(refine LS.nilO ?_;intro nq hnq hltq;try refine zU ?_)|(refine MS.new ?_;intro bq hbq hbqf;try refine zU ?_)|(refine MS.nil ?_;intro nq hnq hltq;have hlq:=hltq _ _ (Hp.get_eq _ _ _);clear hltq;try refine zU ?_)|(refine LS.nilQ ?_;try with_reducible intro nq hnq;try refine zU ?_))
    exact ⟨.tup [.arr 8 (bys (ivX ((isAlg p (a : Nat) u m ∧ isVec p (a : Nat) v) ∧ 0 ≤ (c : Int) ∧ (c : Int) ≤ 100) (pw p m u v a (c : Int).toNat))), i64 (pwC (isAlg p (a : Nat) u m ∧ isVec p (a : Nat) v) (0 ≤ (c : Int) ∧ (c : Int) ≤ 100))], H, conc_tup2 (conc_arr (fun q hq => by rw [ivX_t ⟨h3, h4⟩, Nat.zero_add, Int.toNat_natCast])) (by rw [pwC_0 h3 h4]), by exact zD, rfl, rfl⟩

end Go.Proofs.YtgnphaopeplfbaaGreatDoor
