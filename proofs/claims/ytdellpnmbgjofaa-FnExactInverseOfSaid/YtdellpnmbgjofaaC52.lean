/- Inverses of vectors: what they are, and the spec's function. -/
import Derived.Test.YtdellpnmbgjofaaC51
namespace Go.V
open Classical in
/-- The inverse, or zeros. -/
noncomputable def ivW (p : Int) (u m v : Nat → Int) (n : Nat) : Nat → Int := if h : ∃ w, isIv p u m v n w then h.choose else fun _ => 0
theorem ivW_is {p : Int} {u m v : Nat → Int} {n : Nat} (h : ∃ w, isIv p u m v n w) : isIv p u m v n (ivW p u m v n) := by
  unfold ivW; rw [dif_pos h]; exact h.choose_spec
theorem ivW_no {p : Int} {u m v : Nat → Int} {n : Nat} (h : ¬∃ w, isIv p u m v n w) : ivW p u m v n = fun _ => 0 := by
  unfold ivW; rw [dif_neg h]
theorem cdz {Q : Prop} : cd Q = 0 ↔ Q := by
  by_cases h : Q
  · rw [cd_true h]; exact ⟨fun _ => h, fun _ => rfl⟩
  · rw [cd_false h]; exact ⟨fun q => by omega, fun q => absurd q h⟩
/-- The code of an inverse. -/
noncomputable def ivC (A E : Prop) : Int := if tb A = true then if tb E = true then 0 else 4 else 1
theorem ivC_1 {A E : Prop} (h : ¬A) : ivC A E = 1 := by unfold ivC; rw [tb_false h]; rfl
theorem ivC_4 {A E : Prop} (h : A) (h2 : ¬E) : ivC A E = 4 := by unfold ivC; rw [tb_true h, tb_false h2]; rfl
theorem ivC_0 {A E : Prop} (h : A) (h2 : E) : ivC A E = 0 := by unfold ivC; rw [tb_true h, tb_true h2]; rfl
noncomputable def ivX (A : Prop) (w : Nat → Int) : Nat → Int := fun q => if tb A = true then w q else 0
theorem ivX_t {A : Prop} (h : A) (w : Nat → Int) : ivX A w = w := by funext q; unfold ivX; rw [if_pos (tb_true h)]
theorem ivX_f {A : Prop} (h : ¬A) (w : Nat → Int) : ivX A w = fun _ => 0 := by funext q; unfold ivX; rw [tb_false h, if_neg (by simp)]
/-- An algebra and a vector of it. -/
structure algW (p : Int) (a : Nat) (u m v : Nat → Int) : Prop where
  hp : isP p = true
  ha1 : 1 ≤ a
  ha : a ≤ 8
  hu : units p a u m
  has : assoc p a m
  ru : isRes p 8 u
  rv : isRes p 8 v
theorem algW_of {p n' : Int} {u m v : Nat → Int} (h : isAlg p n' u m ∧ isVec p n' v) (hu : isBy 8 u) (hv : isBy 8 v) : ∃ a : Nat, n' = a ∧ algW p a u m v := by
  obtain ⟨⟨⟨⟨q1, q2⟩, q3, q4⟩, q5, q6⟩, q7⟩ := h
  obtain ⟨a, rfl⟩ := Int.eq_ofNat_of_zero_le (show 0 ≤ n' by omega)
  exact ⟨a, rfl, q1, by omega, by omega, q5, q6, fun i hi => ⟨(hu i hi).1, (q3 i hi).1⟩, fun i hi => ⟨(hv i hi).1, (q7 i hi).1⟩⟩
end Go.V
namespace Go.Proofs.Ytdellpnmbgjofaa
open Go.V
set_option linter.unusedSimpArgs false
set_option linter.unusedVariables false
set_option maxHeartbeats 4000000

/-- spec.InverseOf -/
def ir4 : Cd := (.seq (.reg [⟨some 2,none,.box 35 (.t 0)⟩,⟨some 3,none,.box 27 (.t 1)⟩,⟨some 4,none,.new 27 [(8,(.int .u8 0))]⟩,⟨some 5,none,.mov (.c (.int .i64 0))⟩]) (.seq (.seq (.reg [⟨some 9,none,.ld (some 522) (.t 2)⟩,⟨some 10,none,.ld (some 8) (.t 3)⟩,⟨some 11,none,.bsl 27 1 8 [(8,(.int .u8 0))] [(0,8,(.t 10))]⟩,⟨some 12,none,.call 9 [(.t 9),(.t 11)]⟩,⟨some 6,none,.mov (.t 12)⟩]) (.seq (.reg [⟨some 13,none,.mov (.t 6)⟩,⟨some 14,none,.bin .neq (.t 13) (.c (.int .i64 0))⟩]) (.cond (.t 14) (.seq (.reg [⟨some 15,none,.build 8 [(8,(.int .u8 0))] []⟩,⟨some 16,none,.mov (.t 6)⟩,⟨none,none,.st 8 (.t 4) (.t 15)⟩,⟨some 5,none,.mov (.t 16)⟩]) .ret) .skip))) (.seq (.mix [⟨some 18,none,.fa 0 (.t 2)⟩,⟨some 19,none,.ld none (.t 18)⟩,⟨some 20,none,.fa 1 (.t 2)⟩,⟨some 21,none,.ld none (.t 20)⟩,⟨some 22,none,.ld (some 522) (.t 2)⟩,⟨some 23,none,.ld (some 8) (.t 3)⟩,⟨some 24,none,.call 11 [(.t 22),(.t 23)]⟩,⟨some 25,none,.fa 2 (.t 2)⟩,⟨some 26,none,.ld (some 8) (.t 25)⟩,⟨some 27,none,.call 10 [(.t 19),(.t 21),(.t 24),(.t 26)]⟩,⟨some 17,none,.mov (.t 27)⟩,⟨some 28,none,.ex (.t 17) 0⟩,⟨some 29,none,.ex (.t 17) 1⟩] [⟨some 7,none,.new 27 [(8,(.int .u8 0))]⟩,⟨none,none,.st 8 (.t 7) (.t 28)⟩,⟨some 8,none,.mov (.t 29)⟩]) (.seq (.seq (.drw true [] [⟨some 30,none,.mov (.t 8)⟩,⟨some 31,none,.un .not (.t 30)⟩,⟨some 32,none,.mov (.t 31)⟩,⟨some 33,(some (32,false)),.ld (some 522) (.t 2)⟩,⟨some 34,(some (32,false)),.ld (some 8) (.t 7)⟩,⟨some 35,(some (32,false)),.ld (some 8) (.t 3)⟩,⟨some 36,(some (32,false)),.call 12 [(.t 33),(.t 34),(.t 35)]⟩,⟨some 37,(some (32,false)),.fa 2 (.t 2)⟩,⟨some 38,(some (32,false)),.ld (some 8) (.t 37)⟩,⟨some 39,(some (32,false)),.eqa true 8 (.t 36) (.t 38)⟩,⟨some 40,none,.pick (.t 32) (.c (.bool true)) (.t 39)⟩]) (.cond (.t 40) (.seq (.reg [⟨some 41,none,.build 8 [(8,(.int .u8 0))] []⟩,⟨none,none,.st 8 (.t 4) (.t 41)⟩,⟨some 5,none,.mov (.c (.int .i64 4))⟩]) .ret) .skip)) (.seq (.reg [⟨some 42,none,.ld (some 8) (.t 7)⟩,⟨none,none,.st 8 (.t 4) (.t 42)⟩,⟨some 5,none,.mov (.c (.int .i64 0))⟩]) .ret)))))
set_option maxRecDepth 100000 in
theorem tr4 : trFn Try.prog Try.f4 = some (43, ir4, [.cell (some 8) 4, .tmp 5]) := by kernel_rfl

theorem spec_InverseOf (p n' : Int) (u m v : Nat → Int) (K : Nat → SV) (H : Hp) (n : Nat) (h0 : K 0 = .int .i64 p) (h1 : K 1 = .int .i64 n')
    (hU : ∀ q, q < 8 → K (2 + q) = .int .u8 (u q)) (hK : ∀ q, q < 512 → K (10 + q) = .int .u8 (m q)) (hu : isBy 8 u) (hm : isBy 512 m) (hv : isBy 8 v) :
    FnS Try.prog 4 [.arr 522 K, .arr 8 (bys v)] H n (fun r H' _ => r = .tup [.arr 8 (bys (ivX (isAlg p n' u m ∧ isVec p n' v) (ivW p u m v n'.toNat))), i64 (ivC (isAlg p n' u m ∧ isVec p n' v) (∃ w, isIv p u m v n'.toNat w))] ∧ H' = H) := by
  refine FnS.of_body Try.func4 tr4 (by simp) (fun hf => ?_)
  dsimp only [argEnv]
  unfold ir4
  (repeat first|refine zG ?_|(refine LS.nilO ?_;intro nq hnq hltq;try refine zU ?_)|(refine MS.new ?_;intro bq hbq hbqf;try refine zU ?_)|(refine MS.nil ?_;intro nq hnq hltq;have hlq:=hltq _ _ (Hp.get_eq _ _ _);clear hltq;try refine zU ?_)|(refine LS.nilQ ?_;try with_reducible intro nq hnq;try refine zU ?_))
  refine RS.call rfl ((FnS.args (concs_cons (conc_arr (fun q hq => rfl)) rfl) (spec_l01Code p n' u m v (n + 3) _ K _ _ h0 h1 hU hK hu hm hv (by exact zH) (by simp) (fun q hq => by (try dsimp only); unfold splice; rw [if_pos (by omega)]; simp only [Nat.sub_zero]; rfl))).mono ?_)
  rintro r H' n2 hn2 ⟨rfl, rfl⟩
  (repeat first|refine zG ?_|(refine LS.nilO ?_;intro nq hnq hltq;try refine zU ?_)|(refine MS.new ?_;intro bq hbq hbqf;try refine zU ?_)|(refine MS.nil ?_;intro nq hnq hltq;have hlq:=hltq _ _ (Hp.get_eq _ _ _);clear hltq;try refine zU ?_)|(refine LS.nilQ ?_;try with_reducible intro nq hnq;try refine zU ?_))
  refine zI ?_ ?_<;>intro h2
  · have h3 : ¬(isAlg p n' u m ∧ isVec p n' v) := fun q => h2 (cdz.2 q)
    (repeat first|refine zG ?_|(refine LS.nilO ?_;intro nq hnq hltq;try refine zU ?_)|(refine MS.new ?_;intro bq hbq hbqf;try refine zU ?_)|(refine MS.nil ?_;intro nq hnq hltq;have hlq:=hltq _ _ (Hp.get_eq _ _ _);clear hltq;try refine zU ?_)|(refine LS.nilQ ?_;try with_reducible intro nq hnq;try refine zU ?_))
    exact ⟨.tup [.arr 8 (bys (ivX (isAlg p n' u m ∧ isVec p n' v) (ivW p u m v n'.toNat))), i64 (ivC (isAlg p n' u m ∧ isVec p n' v) (∃ w, isIv p u m v n'.toNat w))], H, conc_tup2 (conc_arr (fun q hq => by rw [ivX_f h3]; first | rfl | (simp only [Nat.zero_add]; rfl))) (by rw [ivC_1 h3, cd_false h3]), by exact zD, rfl, rfl⟩
  · have h3 : isAlg p n' u m ∧ isVec p n' v := cdz.1 h2
    obtain ⟨a, rfl, hW⟩ := algW_of h3 hu hv
    rw [Int.toNat_natCast]
    have hb := isP_le hW.hp
    have hlr := lft_res hb.1 m v a 64
    have hsrc := gsr_src hW.hp hW.ha hlr a (Nat.le_refl _)
    have hwr : isRes p 8 (lfw p (lft p m v a) u a) := rdw_res hb.1 (fun _ _ => ⟨by (try dsimp only); omega, by (try dsimp only); omega⟩) _
    have hno : ∀ (q : ¬((∀ q, q < 8 → lfr p (lft p m v a) u a q = 0) ∧ (∀ q, q < 8 → pr p m (lfw p (lft p m v a) u a) v a q = u q))), ¬∃ w, isIv p u m v a w := fun q h => by
      obtain ⟨w, hw⟩ := h
      exact q ((lift_inv hW.hp hW.ha hW.hu hW.has hW.ru).2 (hw.cong hW.ha (fun x hx => lift_all hW.hp hW.ha hW.hu hW.has hW.ru hw hx)))
    (repeat first|refine zG ?_|(refine LS.nilO ?_;intro nq hnq hltq;try refine zU ?_)|(refine MS.new ?_;intro bq hbq hbqf;try refine zU ?_)|(refine MS.nil ?_;intro nq hnq hltq;have hlq:=hltq _ _ (Hp.get_eq _ _ _);clear hltq;try refine zU ?_)|(refine LS.nilQ ?_;try with_reducible intro nq hnq;try refine zU ?_))
    refine LS.callQ (.arr 64 (bys (lft p m v a))) rfl (fun n' hn' => spec_l01Left p a m v K _ _ hb hW.ha h0 h1 hK hm hv) ?_
    (repeat first|refine zG ?_|(refine LS.nilO ?_;intro nq hnq hltq;try refine zU ?_)|(refine MS.new ?_;intro bq hbq hbqf;try refine zU ?_)|(refine MS.nil ?_;intro nq hnq hltq;have hlq:=hltq _ _ (Hp.get_eq _ _ _);clear hltq;try refine zU ?_)|(refine LS.nilQ ?_;try with_reducible intro nq hnq;try refine zU ?_))
    by_cases hZ : ∀ q, q < 8 → lfr p (lft p m v a) u a q = 0
    · refine LS.callQ (.tup [.arr 8 (bys (lfw p (lft p m v a) u a)), bl true]) rfl (fun n' hn' => by
        have := fun H => spec_l01Lift p a (lft p m v a) u H n' hW.hp hW.ha hlr hW.ru
        simp only [tb_true hZ] at this
        exact this _) ?_
      (repeat first|refine zG ?_|(refine LS.nilO ?_;intro nq hnq hltq;try refine zU ?_)|(refine MS.new ?_;intro bq hbq hbqf;try refine zU ?_)|(refine MS.nil ?_;intro nq hnq hltq;have hlq:=hltq _ _ (Hp.get_eq _ _ _);clear hltq;try refine zU ?_)|(refine LS.nilQ ?_;try with_reducible intro nq hnq;try refine zU ?_))
      refine LS.callQ (.arr 8 (bys (pr p m (lfw p (lft p m v a) u a) v a))) rfl (fun n' hn' => spec_l01Times p a m (lfw p (lft p m v a) u a) v K _ _ hb hW.ha h0 h1 hK hm (isRes.by hwr hb.2) hv) ?_
      (repeat first|refine zG ?_|(refine LS.nilO ?_;intro nq hnq hltq;try refine zU ?_)|(refine MS.new ?_;intro bq hbq hbqf;try refine zU ?_)|(refine MS.nil ?_;intro nq hnq hltq;have hlq:=hltq _ _ (Hp.get_eq _ _ _);clear hltq;try refine zU ?_)|(refine LS.nilQ ?_;try with_reducible intro nq hnq;try refine zU ?_))
      refine zI ?_ ?_<;>intro h5
      · (repeat first|refine zG ?_|(refine LS.nilO ?_;intro nq hnq hltq;try refine zU ?_)|(refine MS.new ?_;intro bq hbq hbqf;try refine zU ?_)|(refine MS.nil ?_;intro nq hnq hltq;have hlq:=hltq _ _ (Hp.get_eq _ _ _);clear hltq;try refine zU ?_)|(refine LS.nilQ ?_;try with_reducible intro nq hnq;try refine zU ?_))
        have h6 := hno (fun q => h5 q.2)
        exact ⟨.tup [.arr 8 (bys (ivX (isAlg p a u m ∧ isVec p a v) (ivW p u m v a))), i64 (ivC (isAlg p a u m ∧ isVec p a v) (∃ w, isIv p u m v a w))], H, conc_tup2 (conc_arr (fun q hq => by rw [ivX_t h3, ivW_no h6]; first | rfl | (simp only [Nat.zero_add]; rfl))) (by rw [ivC_4 h3 h6]), by exact zD, rfl, rfl⟩
      · have h6 := (lift_inv hW.hp hW.ha hW.hu hW.has hW.ru).1 ⟨hZ, h5⟩
        have h7 : ∃ w, isIv p u m v a w := ⟨_, h6⟩
        (repeat first|refine zG ?_|(refine LS.nilO ?_;intro nq hnq hltq;try refine zU ?_)|(refine MS.new ?_;intro bq hbq hbqf;try refine zU ?_)|(refine MS.nil ?_;intro nq hnq hltq;have hlq:=hltq _ _ (Hp.get_eq _ _ _);clear hltq;try refine zU ?_)|(refine LS.nilQ ?_;try with_reducible intro nq hnq;try refine zU ?_))
        exact ⟨.tup [.arr 8 (bys (ivX (isAlg p a u m ∧ isVec p a v) (ivW p u m v a))), i64 (ivC (isAlg p a u m ∧ isVec p a v) (∃ w, isIv p u m v a w))], H, conc_tup2 (conc_arr (fun q hq => by rw [ivX_t h3]; simp only [Nat.zero_add]; exact congrArg (SV.int .u8) (lift_all hW.hp hW.ha hW.hu hW.has hW.ru (ivW_is h7) hq))) (by rw [ivC_0 h3 h7]), by exact zD, rfl, rfl⟩
    · refine LS.callQ (.tup [.arr 8 (bys (lfw p (lft p m v a) u a)), bl false]) rfl (fun n' hn' => by
        have := fun H => spec_l01Lift p a (lft p m v a) u H n' hW.hp hW.ha hlr hW.ru
        simp only [tb_false hZ] at this
        exact this _) ?_
      (repeat first|refine zG ?_|(refine LS.nilO ?_;intro nq hnq hltq;try refine zU ?_)|(refine MS.new ?_;intro bq hbq hbqf;try refine zU ?_)|(refine MS.nil ?_;intro nq hnq hltq;have hlq:=hltq _ _ (Hp.get_eq _ _ _);clear hltq;try refine zU ?_)|(refine LS.nilQ ?_;try with_reducible intro nq hnq;try refine zU ?_))
      have h6 := hno (fun q => hZ q.1)
      exact ⟨.tup [.arr 8 (bys (ivX (isAlg p a u m ∧ isVec p a v) (ivW p u m v a))), i64 (ivC (isAlg p a u m ∧ isVec p a v) (∃ w, isIv p u m v a w))], H, conc_tup2 (conc_arr (fun q hq => by rw [ivX_t h3, ivW_no h6]; first | rfl | (simp only [Nat.zero_add]; rfl))) (by rw [ivC_4 h3 h6]), by exact zD, rfl, rfl⟩

end Go.Proofs.Ytdellpnmbgjofaa
