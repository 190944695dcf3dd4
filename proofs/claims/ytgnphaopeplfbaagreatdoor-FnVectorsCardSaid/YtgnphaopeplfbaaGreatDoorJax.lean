/- Inverses of vectors: what they are, and the spec's function. -/
import Derived.Test.YtgnphaopeplfbaaGreatDoorJaw
set_option linter.unusedSectionVars false
set_option linter.unusedVariables false
set_option linter.unusedSimpArgs false

namespace Go.V

open Classical in

/-- The inverse, or zeros. -/
noncomputable def ivW (p : Int) (u m v : Nat → Int) (n : Nat) : Nat → Int := if h : ∃ w, isIv p u m v n w then h.choose else fun _ => 0

theorem ivW_is {p : Int} {u m v : Nat → Int} {n : Nat} (h : ∃ w, isIv p u m v n w) : isIv p u m v n (ivW p u m v n) := by
  unfold ivW; rw [dif_pos h]; exact h.choose_spec

theorem ivW_no {p : Int} {u m v : Nat → Int} {n : Nat} (h : ¬∃ w, isIv p u m v n w) : ivW p u m v n = fun _ => 0 := by
  unfold ivW; rw [dif_neg h]

theorem cdz {Q : Prop} : cd Q = 0 ↔ Q := by
  by_cases h : Q
  · rw [cd_true h]; exact ⟨fun _ => h, fun _ => rfl⟩
  · rw [cd_false h]; exact ⟨fun q => by omega, fun q => absurd q h⟩

/-- The code of an inverse. -/
noncomputable def ivC (A E : Prop) : Int := if tb A = true then if tb E = true then 0 else 4 else 1

theorem ivC_1 {A E : Prop} (h : ¬A) : ivC A E = 1 := by unfold ivC; rw [tb_false h]; rfl

theorem ivC_4 {A E : Prop} (h : A) (h2 : ¬E) : ivC A E = 4 := by unfold ivC; rw [tb_true h, tb_false h2]; rfl

theorem ivC_0 {A E : Prop} (h : A) (h2 : E) : ivC A E = 0 := by unfold ivC; rw [tb_true h, tb_true h2]; rfl

noncomputable def ivX (A : Prop) (w : Nat → Int) : Nat → Int := fun q => if tb A = true then w q else 0

theorem ivX_t {A : Prop} (h : A) (w : Nat → Int) : ivX A w = w := by funext q; unfold ivX; rw [if_pos (tb_true h)]

theorem ivX_f {A : Prop} (h : ¬A) (w : Nat → Int) : ivX A w = fun _ => 0 := by funext q; unfold ivX; rw [tb_false h, if_neg (by simp)]

/-- An algebra and a vector of it. -/
structure algW (p : Int) (a : Nat) (u m v : Nat → Int) : Prop where
  hp : isP p = true
  ha1 : 1 ≤ a
  ha : a ≤ 8
  hu : units p a u m
  has : assoc p a m
  ru : isRes p 8 u
  rv : isRes p 8 v

theorem algW_of {p n' : Int} {u m v : Nat → Int} (h : isAlg p n' u m ∧ isVec p n' v) (hu : isBy 8 u) (hv : isBy 8 v) : ∃ a : Nat, n' = a ∧ algW p a u m v := by
  obtain ⟨⟨⟨⟨q1, q2⟩, q3, q4⟩, q5, q6⟩, q7⟩ := h
  obtain ⟨a, rfl⟩ := Int.eq_ofNat_of_zero_le (show 0 ≤ n' by omega)
  exact ⟨a, rfl, q1, by omega, by omega, q5, q6, fun i hi => ⟨(hu i hi).1, (q3 i hi).1⟩, fun i hi => ⟨(hv i hi).1, (q7 i hi).1⟩⟩

end Go.V

namespace Go.Proofs.YtgnphaopeplfbaaGreatDoor

open Go.V

variable [BW]

set_option linter.unusedSimpArgs false

set_option linter.unusedVariables false

set_option maxHeartbeats 4000000

/-- spec.InverseOf -/
def ir15 : Cd := (.seq (.reg [⟨some 2,none,.box 31 (.t 0)⟩,⟨some 3,none,.box 25 (.t 1)⟩,⟨some 4,none,.new 25 [(8,(.int .u8 0))]⟩,⟨some 5,none,.mov (.c (.int .i64 0))⟩]) (.seq (.seq (.reg [⟨some 9,none,.ld (some 522) (.t 2)⟩,⟨some 10,none,.ld (some 8) (.t 3)⟩,⟨some 11,none,.bsl 25 1 8 [(8,(.int .u8 0))] [(0,8,(.t 10))]⟩,⟨some 12,none,.call 27 [(.t 9),(.t 11)]⟩,⟨some 6,none,.mov (.t 12)⟩]) (.seq (.reg [⟨some 13,none,.mov (.t 6)⟩,⟨some 14,none,.bin .neq (.t 13) (.c (.int .i64 0))⟩]) (.cond (.t 14) (.seq (.reg [⟨some 15,none,.build 8 [(8,(.int .u8 0))] []⟩,⟨some 16,none,.mov (.t 6)⟩,⟨none,none,.st 8 (.t 4) (.t 15)⟩,⟨some 5,none,.mov (.t 16)⟩]) .ret) .skip))) (.seq (.mix [⟨some 18,none,.fa 0 (.t 2)⟩,⟨some 19,none,.ld none (.t 18)⟩,⟨some 20,none,.fa 1 (.t 2)⟩,⟨some 21,none,.ld none (.t 20)⟩,⟨some 22,none,.ld (some 522) (.t 2)⟩,⟨some 23,none,.ld (some 8) (.t 3)⟩,⟨some 24,none,.call 38 [(.t 22),(.t 23)]⟩,⟨some 25,none,.fa 2 (.t 2)⟩,⟨some 26,none,.ld (some 8) (.t 25)⟩,⟨some 27,none,.call 37 [(.t 19),(.t 21),(.t 24),(.t 26)]⟩,⟨some 17,none,.mov (.t 27)⟩,⟨some 28,none,.ex (.t 17) 0⟩,⟨some 29,none,.ex (.t 17) 1⟩] [⟨some 7,none,.new 25 [(8,(.int .u8 0))]⟩,⟨none,none,.st 8 (.t 7) (.t 28)⟩,⟨some 8,none,.mov (.t 29)⟩]) (.seq (.seq (.drw true [] [⟨some 30,none,.mov (.t 8)⟩,⟨some 31,none,.un .not (.t 30)⟩,⟨some 32,none,.mov (.t 31)⟩,⟨some 33,(some (32,false)),.ld (some 522) (.t 2)⟩,⟨some 34,(some (32,false)),.ld (some 8) (.t 7)⟩,⟨some 35,(some (32,false)),.ld (some 8) (.t 3)⟩,⟨some 36,(some (32,false)),.call 28 [(.t 33),(.t 34),(.t 35)]⟩,⟨some 37,(some (32,false)),.fa 2 (.t 2)⟩,⟨some 38,(some (32,false)),.ld (some 8) (.t 37)⟩,⟨some 39,(some (32,false)),.eqa true 8 (.t 36) (.t 38)⟩,⟨some 40,none,.pick (.t 32) (.c (.bool true)) (.t 39)⟩]) (.cond (.t 40) (.seq (.reg [⟨some 41,none,.build 8 [(8,(.int .u8 0))] []⟩,⟨none,none,.st 8 (.t 4) (.t 41)⟩,⟨some 5,none,.mov (.c (.int .i64 4))⟩]) .ret) .skip)) (.seq (.reg [⟨some 42,none,.ld (some 8) (.t 7)⟩,⟨none,none,.st 8 (.t 4) (.t 42)⟩,⟨some 5,none,.mov (.c (.int .i64 0))⟩]) .ret)))))

set_option maxRecDepth 100000 in
theorem tr15 : trFn Tryz.prog Tryz.f15 = some (43, ir15, [.cell (some 8) 4, .tmp 5]) := by kernel_rfl

theorem spec_InverseOf (p n' : Int) (u m v : Nat → Int) (K : Nat → SV) (H : Hp) (n : Nat) (h0 : K 0 = .int .i64 p) (h1 : K 1 = .int .i64 n')
    (hU : ∀ q, q < 8 → K (2 + q) = .int .u8 (u q)) (hK : ∀ q, q < 512 → K (10 + q) = .int .u8 (m q)) (hu : isBy 8 u) (hm : isBy 512 m) (hv : isBy 8 v) :
    FnS Tryz.prog 15 [.arr 522 K, .arr 8 (bys v)] H n (fun r H' _ => r = .tup [.arr 8 (bys (ivX (isAlg p n' u m ∧ isVec p n' v) (ivW p u m v n'.toNat))), i64 (ivC (isAlg p n' u m ∧ isVec p n' v) (∃ w, isIv p u m v n'.toNat w))] ∧ H' = H) := by
  refine FnS.of_body Tryz.func15 tr15 (by simp) (fun hf => ?_)
  dsimp only [argEnv]
  unfold ir15
  (repeat first|refine zG ?_|(refine LS.nilO ?_;intro nq hnq hltq;try refine zU ?_)|(refine MS.new ?_;intro bq hbq hbqf;try refine zU ?_)|(refine MS.nil ?_;intro nq hnq hltq;have hlq:=hltq _ _ (Hp.get_eq _ _ _);clear hltq;try refine zU ?_)|(refine LS.nilQ ?_;try with_reducible intro nq hnq;try refine zU ?_))
  refine RS.call rfl ((FnS.args (concs_cons (conc_arr (fun q hq => rfl)) rfl) (spec_l01Code p n' u m v (n + 3) _ K _ _ h0 h1 hU hK hu hm hv (by exact zH) (by simp) (fun q hq => by (try dsimp only); unfold splice; rw [if_pos (by omega)]; simp only [Nat.sub_zero]; rfl))).mono ?_)
  rintro r H' n2 hn2 ⟨rfl, rfl⟩
  (repeat first|refine zG ?_|(refine LS.nilO ?_;intro nq hnq hltq;try refine zU ?_)|(refine MS.new ?_;intro bq hbq hbqf;try refine zU ?_)|(refine MS.nil ?_;intro nq hnq hltq;have hlq:=hltq _ _ (Hp.get_eq _ _ _);clear hltq;try refine zU ?_)|(refine LS.nilQ ?_;try with_reducible intro nq hnq;try refine zU ?_))
  refine zI ?_ ?_<;>intro h2
  · have h3 : ¬(isAlg p n' u m ∧ isVec p n' v) := fun q => h2 (cdz.2 q)
    (repeat first|refine zG ?_|(refine LS.nilO ?_;intro nq hnq hltq;try refine zU ?_)|(refine MS.new ?_;intro bq hbq hbqf;try refine zU ?_)|(refine MS.nil ?_;intro nq hnq hltq;have hlq:=hltq _ _ (Hp.get_eq _ _ _);clear hltq;try refine zU ?_)|(refine LS.nilQ ?_;try with_reducible intro nq hnq;try refine zU ?_))
    exact ⟨.tup [.arr 8 (bys (ivX (isAlg p n' u m ∧ isVec p n' v) (ivW p u m v n'.toNat))), i64 (ivC (isAlg p n' u m ∧ isVec p n' v) (∃ w, isIv p u m v n'.toNat w))], H, conc_tup2 (conc_arr (fun q hq => by rw [ivX_f h3]; first | rfl | (simp only [Nat.zero_add]; rfl))) (by rw [ivC_1 h3, cd_false h3]), by exact zD, rfl, rfl⟩
  · have h3 : isAlg p n' u m ∧ isVec p n' v := cdz.1 h2
    obtain ⟨a, rfl, hW⟩ := algW_of h3 hu hv
    rw [Int.toNat_natCast]
    have hb := isP_le hW.hp
    have hlr := lft_res hb.1 m v a 64
    have hsrc := gsr_src hW.hp hW.ha hlr a (Nat.le_refl _)
    have hwr : isRes p 8 (lfw p (lft p m v a) u a) := rdw_res hb.1 (fun _ _ => ⟨by (try dsimp only); omega, by (try dsimp only); omega⟩) _
    have hno : ∀ (q : ¬((∀ q, q < 8 → lfr p (lft p m v a) u a q = 0) ∧ (∀ q, q < 8 → pr p m (lfw p (lft p m v a) u a) v a q = u q))), ¬∃ w, isIv p u m v a w := fun q h => by
      obtain ⟨w, hw⟩ := h
      exact q ((lift_inv hW.hp hW.ha hW.hu hW.has hW.ru).2 (hw.cong hW.ha (fun x hx => lift_all hW.hp hW.ha hW.hu hW.has hW.ru hw hx)))
    (repeat first|refine zG ?_|(refine LS.nilO ?_;intro nq hnq hltq;try refine zU ?_)|(refine MS.new ?_;intro bq hbq hbqf;try refine zU ?_)|(refine MS.nil ?_;intro nq hnq hltq;have hlq:=hltq _ _ (Hp.get_eq _ _ _);clear hltq;try refine zU ?_)|(refine LS.nilQ ?_;try with_reducible intro nq hnq;try refine zU ?_))
    refine LS.callQ (.arr 64 (bys (lft p m v a))) rfl (fun n' hn' => spec_l01Left p a m v K _ _ hb hW.ha h0 h1 hK hm hv) ?_
    (repeat first|refine zG ?_|(refine LS.nilO ?_;intro nq hnq hltq;try refine zU ?_)|(refine MS.new ?_;intro bq hbq hbqf;try refine zU ?_)|(refine MS.nil ?_;intro nq hnq hltq;have hlq:=hltq _ _ (Hp.get_eq _ _ _);clear hltq;try refine zU ?_)|(refine LS.nilQ ?_;try with_reducible intro nq hnq;try refine zU ?_))
    by_cases hZ : ∀ q, q < 8 → lfr p (lft p m v a) u a q = 0
    · refine LS.callQ (.tup [.arr 8 (bys (lfw p (lft p m v a) u a)), bl true]) rfl (fun n' hn' => by
        have := fun H => spec_l01Lift p a (lft p m v a) u H n' hW.hp hW.ha hlr hW.ru
        simp only [tb_true hZ] at this
        exact this _) ?_
      (repeat first|refine zG ?_|(refine LS.nilO ?_;intro nq hnq hltq;try refine zU ?_)|(refine MS.new ?_;intro bq hbq hbqf;try refine zU ?_)|(refine MS.nil ?_;intro nq hnq hltq;have hlq:=hltq _ _ (Hp.get_eq _ _ _);clear hltq;try refine zU ?_)|(refine LS.nilQ ?_;try with_reducible intro nq hnq;try refine zU ?_))
      refine LS.callQ (.arr 8 (bys (pr p m (lfw p (lft p m v a) u a) v a))) rfl (fun n' hn' => spec_l01Times p a m (lfw p (lft p m v a) u a) v K _ _ hb hW.ha h0 h1 hK hm (isRes.by hwr hb.2) hv) ?_
      (repeat first|refine zG ?_|(refine LS.nilO ?_;intro nq hnq hltq;try refine zU ?_)|(refine MS.new ?_;intro bq hbq hbqf;try refine zU ?_)|(refine MS.nil ?_;intro nq hnq hltq;have hlq:=hltq _ _ (Hp.get_eq _ _ _);clear hltq;try refine zU ?_)|(refine LS.nilQ ?_;try with_reducible intro nq hnq;try refine zU ?_))
      refine zI ?_ ?_<;>intro h5
      · (repeat first|refine zG ?_|(refine LS.nilO ?_;intro nq hnq hltq;try refine zU ?_)|(refine MS.new ?_;intro bq hbq hbqf;try refine zU ?_)|(refine MS.nil ?_;intro nq hnq hltq;have hlq:=hltq _ _ (Hp.get_eq _ _ _);clear hltq;try refine zU ?_)|(refine LS.nilQ ?_;try with_reducible intro nq hnq;try refine zU ?_))
        have h6 := hno (fun q => h5 q.2)
        exact ⟨.tup [.arr 8 (bys (ivX (isAlg p a u m ∧ isVec p a v) (ivW p u m v a))), i64 (ivC (isAlg p a u m ∧ isVec p a v) (∃ w, isIv p u m v a w))], H, conc_tup2 (conc_arr (fun q hq => by rw [ivX_t h3, ivW_no h6]; first | rfl | (simp only [Nat.zero_add]; rfl))) (by rw [ivC_4 h3 h6]), by exact zD, rfl, rfl⟩
      · have h6 := (lift_inv hW.hp hW.ha hW.hu hW.has hW.ru).1 ⟨hZ, h5⟩
        have h7 : ∃ w, isIv p u m v a w := ⟨_, h6⟩
        (repeat first|refine zG ?_|(refine LS.nilO ?_;intro nq hnq hltq;try refine zU ?_)|(refine MS.new ?_;intro bq hbq hbqf;try refine zU ?_)|(refine MS.nil ?_;intro nq hnq hltq;have hlq:=hltq _ _ (Hp.get_eq _ _ _);clear hltq;try refine zU ?_)|(refine LS.nilQ ?_;try with_reducible intro nq hnq;try refine zU ?_))
        exact ⟨.tup [.arr 8 (bys (ivX (isAlg p a u m ∧ isVec p a v) (ivW p u m v a))), i64 (ivC (isAlg p a u m ∧ isVec p a v) (∃ w, isIv p u m v a w))], H, conc_tup2 (conc_arr (fun q hq => by rw [ivX_t h3]; simp only [Nat.zero_add]; exact congrArg (SV.int .u8) (lift_all hW.hp hW.ha hW.hu hW.has hW.ru (ivW_is h7) hq))) (by rw [ivC_0 h3 h7]), by exact zD, rfl, rfl⟩
    · refine LS.callQ (.tup [.arr 8 (bys (lfw p (lft p m v a) u a)), bl false]) rfl (fun n' hn' => by
        have := fun H => spec_l01Lift p a (lft p m v a) u H n' hW.hp hW.ha hlr hW.ru
        simp only [tb_false hZ] at this
        exact this _) ?_
      (repeat first|refine zG ?_|(refine LS.nilO ?_;intro nq hnq hltq;try refine zU ?_)|(refine MS.new ?_;intro bq hbq hbqf;try refine zU ?_)|(refine MS.nil ?_;intro nq hnq hltq;have hlq:=hltq _ _ (Hp.get_eq _ _ _);clear hltq;try refine zU ?_)|(refine LS.nilQ ?_;try with_reducible intro nq hnq;try refine zU ?_))
      have h6 := hno (fun q => hZ q.1)
      exact ⟨.tup [.arr 8 (bys (ivX (isAlg p a u m ∧ isVec p a v) (ivW p u m v a))), i64 (ivC (isAlg p a u m ∧ isVec p a v) (∃ w, isIv p u m v a w))], H, conc_tup2 (conc_arr (fun q hq => by rw [ivX_t h3, ivW_no h6]; first | rfl | (simp only [Nat.zero_add]; rfl))) (by rw [ivC_4 h3 h6]), by exact zD, rfl, rfl⟩

end Go.Proofs.YtgnphaopeplfbaaGreatDoor

/- Systems of linear equations, the program's: their blocks, making them, one more equation. -/

namespace Go.V

variable [BW]

/-- A slice of m values of one cell each, which lie in the block b (no block if it is nil). -/
def SL (H : Hp) (v : SV) (m : Nat) (F : Nat → SV) (b : Nat) : Prop :=
  (v = .nils ∧ m = 0) ∨ ∃ o cap k, v = .slc b o m cap ∧ H.get b = some k ∧ o + cap ≤ k.size ∧ m ≤ cap ∧ ∀ i, i < m → k.c (o + i) = F i

theorem SL.same {H : Hp} {v : SV} {m : Nat} {F F' : Nat → SV} {b : Nat} (h : SL H v m F b) (hs : ∀ i, i < m → F i = F' i) : SL H v m F' b := by
  rcases h with h | ⟨o, cap, k, h1, h2, h3, h4, h5⟩
  · exact .inl h
  · exact .inr ⟨o, cap, k, h1, h2, h3, h4, fun i hi => by rw [h5 i hi, hs i hi]⟩

theorem SL.keep {H H' : Hp} {v : SV} {m : Nat} {F : Nat → SV} {b : Nat} (h : SL H v m F b) (hg : H'.get b = H.get b) : SL H' v m F b := by
  rcases h with h | ⟨o, cap, k, h1, h2, h3⟩
  · exact .inl h
  · exact .inr ⟨o, cap, k, h1, hg.trans h2, h3⟩

def snS (F : Nat → SV) (m : Nat) (v : SV) : Nat → SV := fun i => if i = m then v else F i

section

variable {P : Program} {N mm : Nat} {e : Env} {H : Hp} {n : Nat} {l : List Ins} {d : Option Nat} {K : Env → Hp → Nat → Prop}

theorem RS.appS {t : TypeId} {bytes : Nat} {x y : X} {v w : SV} {m b b2 : Nat} {F : Nat → SV} {k2 : Blk} {z : Zs}
    (hx : x.ev e = some (.s v)) (hy : y.ev e = some (.s (.slc b2 0 1 1))) (hV : SL H v m F b) (hb2 : H.get b2 = some k2) (hs2 : k2.size = 1) (hc2 : k2.c 0 = w) (hm : m ≤ 4000000) (hby : bytes ≤ 4000000) (hbn : b < n)
    (h : ∀ v' b' H' n', SL H' v' (m + 1) (snS F m w) b' → (b' = b ∨ b' = n) → b' < n' → n ≤ n' → n' ≤ n + 1 → (∀ x, x ≠ b' → H'.get x = H.get x) → LS P N mm (.seq K) l (putD d (.s v') e) H' n') :
    LS P N mm (.seq K) (⟨d, none, .app t 1 bytes z x y⟩ :: l) e H n := by
  have hy2 : sliceV H 1 (.slc b2 0 1 1) 1 1 (fun _ => w) := .inr ⟨b2, 0, k2, rfl, hb2, by omega, Nat.le_refl _, fun i hi => by (obtain rfl : i = 0 := by omega); exact hc2⟩
  have hby2 : (2 * (m + 1) + 768) * bytes ≤ 2 ^ 48 := Nat.le_trans (Nat.mul_le_mul (show 2 * (m + 1) + 768 ≤ 9000000 by omega) hby) (by decide)
  have new : ∀ (c : Nat → SV), (∀ i, i < m → c i = F i) → ∀ cap', m + 1 ≤ cap' → LS P N mm (.seq K) l (putD d (.s (.slc n 0 (m + 1) cap')) e) ((n, ⟨cap' * 1, joinC ((m + 1) * 1) (joinC (m * 1) c (fun _ => w)) (fun i => z.c (i % 1)), t⟩) :: H) (n + 1) := by
    intro c hc cap' hcap
    refine h _ n _ (n + 1) (.inr ⟨0, cap', _, rfl, Hp.get_eq _ _ _, by (try dsimp only); omega, hcap, fun i hi => ?_⟩) (.inr rfl) (by omega) (by omega) (by omega) (fun x hx => Hp.get_ne _ _ (fun q => hx q.symm))
    (try dsimp only)
    unfold joinC snS
    rw [Nat.zero_add, if_pos (by omega)]
    by_cases e1 : i = m
    · rw [if_neg (by omega), if_pos e1]
    · rw [if_pos (by omega), if_neg e1, hc i (by omega)]
  rcases hV with ⟨rfl, rfl⟩ | ⟨o, cap, k, rfl, hk, ho, hmc, hc⟩
  · refine RS.app (len := 0) (cap := 0) (len2 := 1) (cap2 := 1) (c := F) (c2 := fun _ => w) hx hy (.inl ⟨rfl, rfl, rfl⟩) hy2 hby2 (by omega) (fun hle => by omega) (fun hlt cap' hcap => new F (fun i hi => rfl) cap' hcap)
  · refine RS.app (len2 := 1) (cap2 := 1) (c := F) (c2 := fun _ => w) hx hy (.inr ⟨b, o, k, rfl, hk, by omega, hmc, fun i hi => hc i (by omega)⟩) hy2 hby2 (by omega) (fun hle => ⟨fun b' o' k' he hk' => ?_, fun he => by cases he⟩) (fun hlt cap' hcap => new F (fun i hi => rfl) cap' hcap)
    cases he
    rw [hk] at hk'
    cases hk'
    refine h _ b _ n (.inr ⟨o, cap, _, rfl, Hp.get_set_self _ hk, ho, hle, fun i hi => ?_⟩) (.inl rfl) hbn (Nat.le_refl _) (by omega) (fun x hx => Hp.get_set_other _ (fun q => hx q.symm))
    (try dsimp only)
    unfold splice snS
    by_cases e1 : i = m
    · rw [if_pos (by omega), if_pos e1]
    · rw [if_neg (by omega), if_neg e1, hc i (by omega)]

end

/-- A system: its block sb, the block rb of its rows' slice, the blocks bk of its rows, of which each has a slice with some capacity. -/
structure SY (H : Hp) (sb : Nat) (p : Int) (a m : Nat) (R : Nat → Nat → Int) (rb : Nat) (bk cp : Nat → Nat) (k : Blk) : Prop where
  g : H.get sb = some k
  s : k.size = 5
  c0 : k.c 0 = .int .i64 p
  c1 : k.c 1 = .int .i64 0
  c2 : k.c 2 = .int .i64 a
  rows : SL H (k.c 3) m (fun i => .slc (bk i) 0 (a + 1) (cp (bk i))) rb
  row : ∀ i, i < m → ∃ ki, H.get (bk i) = some ki ∧ a + 1 ≤ ki.size ∧ ∀ x, x < a + 1 → ki.c x = .int .u8 (R i x)
  qc : ∀ i, i < m → a + 1 ≤ cp (bk i)
  d1 : sb ≠ rb
  d2 : ∀ i, i < m → bk i ≠ sb ∧ bk i ≠ rb
  d3 : ∀ i j, i < m → j < m → bk i = bk j → i = j

end Go.V

namespace Go.Proofs.YtgnphaopeplfbaaGreatDoor

open Go.V

variable [BW]

set_option linter.unusedSimpArgs false

set_option linter.unusedVariables false

set_option maxHeartbeats 4000000

/-- impl.newSystem -/
def ir39 : Cd := (.seq (.reg [⟨some 4,none,.mov (.c .nil)⟩]) (.seq (.reg [⟨some 5,none,.mov (.t 0)⟩,⟨some 6,none,.build 2 [(2,(.int .i64 0))] [(0,1,(.t 5)),(1,1,(.c (.int .i64 0)))]⟩,⟨some 7,none,.mov (.t 1)⟩,⟨some 8,none,.build 5 [(3,(.int .i64 0)),(2,.nils)] [(0,2,(.t 6)),(2,1,(.t 7))]⟩,⟨some 9,none,.box 119 (.t 8)⟩,⟨some 4,none,.mov (.t 9)⟩]) .ret))

set_option maxRecDepth 100000 in
theorem tr39 : trFn Tryz.prog Tryz.f39 = some (10, ir39, [.tmp 4]) := by kernel_rfl

theorem impl_newSystem (p : Int) (a : Nat) (H : Hp) (n : Nat) :
    FnS Tryz.prog 39 [i64 p, i64 a] H n (fun r H' n' => r = ptr n 0 ∧ n < n' ∧ ∃ k : Blk, H' = (n, k) :: H ∧ k.size = 5 ∧ k.c 0 = .int .i64 p ∧ k.c 1 = .int .i64 0 ∧ k.c 2 = .int .i64 a ∧ k.c 3 = .nils ∧ k.c 4 = .nils) := by
  refine FnS.of_body Tryz.func39 tr39 (by simp) (fun hf => ?_)
  dsimp only [argEnv]
  unfold ir39
  (refine zG ?_)
  exact ⟨ptr n 0, _, rfl, Drops.refl _ _, rfl, by omega, _, rfl, rfl, rfl, rfl, rfl, rfl, rfl⟩

/-- (*impl.system).add -/
def ir41 : Cd := (.seq (.reg [⟨some 9,none,.mov (.t 0)⟩,⟨some 10,none,.ck (.t 9)⟩,⟨some 11,none,.fa 2 (.t 10)⟩,⟨some 12,none,.ld none (.t 11)⟩,⟨some 13,none,.bin .add (.t 12) (.c (.int .i64 1))⟩,⟨some 14,none,.mks 5 1 1 [(1,(.int .u8 0))] (.t 13) (.t 13)⟩,⟨some 6,none,.mov (.t 14)⟩]) (.seq (.seq (.reg [⟨some 15,none,.mov (.t 1)⟩,⟨some 16,none,.len (.t 15)⟩,⟨some 17,none,.mov (.c (.int .i64 0))⟩]) (.block 0 (.loop (.seq (.reg [⟨some 18,none,.bin .lss (.t 17) (.t 16)⟩]) (.seq (.cond (.t 18) .skip (.exit 0)) (.seq (.block 1 (.seq (.reg [⟨some 19,none,.mov (.t 17)⟩,⟨some 20,none,.isl 1 (.t 15) (.t 17)⟩,⟨some 21,none,.ld none (.t 20)⟩,⟨some 7,none,.mov (.t 19)⟩,⟨some 8,none,.mov (.t 21)⟩]) (.reg [⟨some 22,none,.mov (.t 6)⟩,⟨some 23,none,.mov (.t 7)⟩,⟨some 24,none,.mov (.t 0)⟩,⟨some 25,none,.ck (.t 24)⟩,⟨some 26,none,.fa 0 (.t 25)⟩,⟨some 27,none,.ld (some 2) (.t 26)⟩,⟨some 28,none,.mov (.t 8)⟩,⟨some 29,none,.call 75 [(.t 27),(.t 28)]⟩,⟨some 30,none,.isl 1 (.t 22) (.t 23)⟩,⟨none,none,.st 1 (.t 30) (.t 29)⟩]))) (.reg [⟨some 31,none,.bin .add (.t 17) (.c (.int .i64 1))⟩,⟨some 17,none,.mov (.t 31)⟩]))))))) (.seq (.drw true [12] [⟨some 32,none,.mov (.t 6)⟩,⟨some 33,none,.mov (.t 0)⟩,⟨some 34,none,.ck (.t 33)⟩,⟨some 35,none,.fa 2 (.t 34)⟩,⟨some 36,none,.ld none (.t 35)⟩,⟨some 37,none,.mov (.t 0)⟩,⟨some 38,none,.ck (.t 37)⟩,⟨some 39,none,.fa 0 (.t 38)⟩,⟨some 40,none,.ld (some 2) (.t 39)⟩,⟨some 41,none,.mov (.t 2)⟩,⟨some 42,none,.call 75 [(.t 40),(.t 41)]⟩,⟨some 43,none,.isl 1 (.t 32) (.t 36)⟩,⟨none,none,.st 1 (.t 43) (.t 42)⟩]) (.reg [⟨some 44,none,.mov (.t 0)⟩,⟨some 45,none,.mov (.t 0)⟩,⟨some 46,none,.ck (.t 45)⟩,⟨some 47,none,.fa 3 (.t 46)⟩,⟨some 48,none,.ld none (.t 47)⟩,⟨some 49,none,.mov (.t 6)⟩,⟨some 50,none,.bsl 22 1 1 [(1,.nils)] [(0,1,(.t 49))]⟩,⟨some 51,none,.app 22 1 24 [(1,.nils)] (.t 48) (.t 50)⟩,⟨some 52,none,.ck (.t 44)⟩,⟨some 53,none,.fa 3 (.t 52)⟩,⟨none,none,.st 1 (.t 53) (.t 51)⟩]))))

set_option maxRecDepth 100000 in
theorem tr41 : trFn Tryz.prog Tryz.f41 = some (54, ir41, []) := by kernel_rfl

theorem system_add (p : Int) (a m : Nat) (R : Nat → Nat → Int) (sb rb lb : Nat) (bk cp : Nat → Nat) (ks Kl : Blk) (w : Nat → Int) (z : Int) (H : Hp) (n : Nat) (hp : 2 ≤ p ∧ p ≤ 31) (ha : a ≤ 8) (hm : m ≤ 2000000)
    (hS : SY H sb p a m R rb bk cp ks) (hrb : rb < n) (gl : H.get lb = some Kl) (sl : a ≤ Kl.size) (cl : ∀ q, q < a → Kl.c q = .int .i64 (w q)) (hw : ∀ q, q < a → -1000000 ≤ w q ∧ w q ≤ 1000000) (hz : -1000000 ≤ z ∧ z ≤ 1000000) :
    FnS Tryz.prog 41 [ptr sb 0, .s (.slc lb 0 a a), i64 z] H n (fun r H' n' => r = .tup [] ∧ ∃ rb' ks', SY H' sb p a (m + 1) (snc R m (fun x => if x < a then w x % p else z % p)) rb' (fun i => if i = m then n else bk i) (fun x => if x = n then a + 1 else cp x) ks' ∧ ks'.c 4 = ks.c 4 ∧ rb' < n' ∧ (rb' = rb ∨ n ≤ rb') ∧
      (∀ x, n' ≤ x → H'.get x = none) ∧ ∀ x, x < n → x ≠ sb → x ≠ rb → H'.get x = H.get x) := by
  obtain ⟨gs, ss, s0, s1, s2, srow, hrow, qc, d1, d2, d3⟩ := hS
  refine FnS.of_body Tryz.func41 tr41 (by simp) (fun hf => ?_)
  dsimp only [argEnv]
  unfold ir41
  have hsn := getlt hf gs
  have hln := getlt hf gl
  have s2' : ks.c (0 + 2) = .int .i64 a := s2
  have hfld : ∀ q, q < 2 → ks.c q = fldC p 0 q := fun q hq => by
    rcases (show q = 0 ∨ q = 1 by omega) with rfl | rfl
    · exact s0
    · exact s1
  (refine zG ?_)
  refine RS.mks (len := a + 1) (cap := a + 1) (by exact rfl) (by exact rfl) (by omega) (by omega) (by omega) (by omega) (by omega) ?_
  (refine zG ?_)
  refine CS.iter a (fun i => [(17, i64 i), (16, i64 a), (15, .s (.slc lb 0 a a)), (6, .s (.slc n 0 (a + 1) (a + 1))), (0, ptr sb 0), (2, i64 z)])
    (fun i => (n, ⟨a + 1, fun x => if x < i then .int .u8 (w x % p) else .int .u8 0, 5⟩) :: H) (fun _ => True) (by (repeat first | exact trivial | refine And.intro rfl ?_)) (Drops.keepc (by (try dsimp only); omega) rfl (fun q hq => by (try dsimp only); rw [if_neg (by omega), Nat.mod_one]; rfl) (Drops.refl _ _)) trivial ?_
  intro i n2 hi hn2 _
  (refine zG ?_)
  refine zI ?_ ?_<;>intro h2
  · have cl' : Kl.c (0 + i * 1) = .int .i64 (w i) := by rw [Nat.zero_add, Nat.mul_one]; exact cl i (by omega)
    have hwi := hw i (by omega)
    (refine zG ?_)
    refine RS.call rfl ((FnS.args (concs_cons (conc_arr hfld) rfl) (field_mod p 0 (w i) _ _ hp.1 hp.2 (by omega))).mono ?_)
    rintro r H' n3 hn3 ⟨rfl, rfl⟩
    (refine zG ?_)
    refine ⟨by omega, by (repeat first | exact trivial | refine And.intro rfl ?_), Drops.keepc rfl rfl (fun q hq => ?_) (Drops.refl _ _), trivial⟩
    (try dsimp only)
    rw [Nat.mul_one, Nat.zero_add]
    unfold put1
    by_cases e : q = i
    · subst e; rw [if_pos rfl, if_pos (by omega)]
    · rw [if_neg e]
      show (if q < i then _ else _) = _
      by_cases e2 : q < i
      · rw [if_pos e2, if_pos (by omega)]
      · rw [if_neg e2, if_neg (by omega)]
  · obtain rfl : i = a := by omega
    (refine zG ?_)
    refine LS.callQ (u8 (z % p)) rfl (fun n' hn' => FnS.args (concs_cons (conc_arr hfld) rfl) (field_mod p 0 z _ _ hp.1 hp.2 (by omega))) ?_
    (repeat first|refine zG ?_|(refine LS.nilO ?_;intro nq hnq hltq;try refine zU ?_)|(refine MS.new ?_;intro bq hbq hbqf;try refine zU ?_)|(refine MS.nil ?_;intro nq hnq hltq;have hlq:=hltq _ _ (Hp.get_eq _ _ _);clear hltq;try refine zU ?_)|(refine LS.nilQ ?_;try with_reducible intro nq hnq;try refine zU ?_))
    refine RS.appS (w := .slc n 0 (i + 1) (i + 1)) (by exact rfl) (by exact rfl) (srow.keep (by simp (disch := omega) only [Hp.get_ne])) (by exact zH) rfl (by simp [put1]) (by omega) (by omega) (by omega) ?_
    intro v' b' H' n5 hV hb' hl' hn5 hn5' hg'
    have gs' : H'.get sb = some ks := by rw [hg' sb (by omega)]; simp (disch := omega) only [Hp.get_ne]; exact gs
    have glow : ∀ x, x < n → x ≠ sb → x ≠ rb → (H'.set sb (put1 ks.c 3 v')).get x = H.get x := fun x q1 q2 q3 => by
      rw [Hp.get_set_other _ (fun q => q2 q.symm), hg' x (by omega)]; simp (disch := omega) only [Hp.get_ne]
    have hbk : ∀ j, j < m → bk j < n := fun j hj => by
      obtain ⟨kj, gj, _⟩ := hrow j hj
      exact getlt hf gj
    (refine zG ?_)
    refine ⟨.tup [], H'.set sb (put1 ks.c 3 v'), rfl, Drops.refl _ _, rfl, b', ⟨ks.size, put1 ks.c 3 v', ks.ty⟩, ?_, by simp [put1], hl', by omega, fun x hx => ?_, glow⟩
    · refine { g := Hp.get_set_self _ gs', s := ss, c0 := s0, c1 := s1, c2 := s2, rows := ?_, row := fun j hj => ?_, qc := fun j hj => ?_, d1 := by omega, d2 := fun j hj => ?_, d3 := fun j j2 hj hj2 he => ?_ }
      · refine (hV.keep (Hp.get_set_other _ (by omega))).same (fun k hk => ?_)
        unfold snS
        (try dsimp only)
        by_cases e : k = m
        · rw [if_pos e, if_pos e, if_pos rfl]
        · have := hbk k (by omega)
          rw [if_neg e, if_neg e, if_neg (by omega)]
      · by_cases e : j = m
        · subst e
          rw [if_pos rfl]
          refine ⟨⟨i + 1, put1 (fun x => if x < i then .int .u8 (w x % p) else .int .u8 0) (0 + i * 1) (.int .u8 (z % p)), 5⟩, by rw [Hp.get_set_other _ (by omega), hg' n (by omega)]; simp (disch := omega) only [Hp.get_eq, Hp.get_ne], Nat.le_refl _, fun x hx => ?_⟩
          (try dsimp only)
          unfold put1 snc
          rw [if_pos rfl, Nat.mul_one, Nat.zero_add]
          by_cases e2 : x = i
          · rw [if_pos e2, if_neg (by omega)]
          · rw [if_neg e2, if_pos (by omega)]
            show (if x < i then _ else _) = _
            rw [if_pos (by omega)]
        · obtain ⟨kj, gj, sj, cj⟩ := hrow j (by omega)
          have h1 := d2 j (by omega)
          have h2 := hbk j (by omega)
          rw [if_neg e]
          refine ⟨kj, by rw [glow (bk j) h2 h1.1 h1.2]; exact gj, sj, fun x hx => ?_⟩
          rw [cj x hx]; unfold snc; rw [if_neg e]
      · (try dsimp only)
        by_cases e : j = m
        · rw [if_pos e, if_pos rfl]; omega
        · have h2 := hbk j (by omega)
          have h3 := qc j (by omega)
          rw [if_neg e, if_neg (by omega)]; omega
      · by_cases e : j = m
        · rw [if_pos e]; omega
        · have h1 := d2 j (by omega)
          have h2 := hbk j (by omega)
          rw [if_neg e]; omega
      · by_cases e : j = m
        · by_cases e2 : j2 = m
          · omega
          · have h2 := hbk j2 (by omega)
            rw [if_pos e, if_neg e2] at he; omega
        · have h1 := hbk j (by omega)
          by_cases e2 : j2 = m
          · rw [if_neg e, if_pos e2] at he; omega
          · rw [if_neg e, if_neg e2] at he; exact d3 j j2 (by omega) (by omega) he
    · rw [Hp.get_set_other _ (by omega), hg' x (by omega)]; simp (disch := omega) only [Hp.get_ne]; exact hf x (by omega)

end Go.Proofs.YtgnphaopeplfbaaGreatDoor

/- Systems of linear equations, the program's: one place cleared. -/

namespace Go.V

theorem SY.put {H : Hp} {sb : Nat} {p : Int} {a m : Nat} {R : Nat → Nat → Int} {rb : Nat} {bk cp : Nat → Nat} {ks kj : Blk} {j x0 : Nat} {v : Int} (h : SY H sb p a m R rb bk cp ks) (hj : j < m) (gj : H.get (bk j) = some kj) {c' : Nat → SV} (hc : c' = put1 kj.c x0 (.int .u8 v)) :
    SY (H.set (bk j) c') sb p a m (fun k x => if k = j ∧ x = x0 then v else R k x) rb bk cp ks := by
  have hd := h.d2 j hj
  refine { h with g := by rw [Hp.get_set_other _ hd.1]; exact h.g, rows := h.rows.keep (Hp.get_set_other _ hd.2), row := fun i hi => ?_ }
  by_cases e : i = j
  · subst e
    obtain ⟨k2, g2, s2, c2⟩ := h.row i hi
    rw [gj] at g2; cases g2
    refine ⟨_, Hp.get_set_self _ gj, s2, fun x hx => ?_⟩
    (try dsimp only)
    rw [hc]
    unfold put1
    by_cases e2 : x = x0
    · rw [if_pos e2, if_pos ⟨rfl, e2⟩]
    · rw [if_neg e2, if_neg (fun q => e2 q.2)]; exact c2 x hx
  · obtain ⟨k2, g2, s2, c2⟩ := h.row i hi
    refine ⟨k2, by rw [Hp.get_set_other _ (fun q => e (h.d3 i j hi hj q.symm))]; exact g2, s2, fun x hx => ?_⟩
    rw [if_neg (fun q => e q.1)]; exact c2 x hx

theorem SY.same {H : Hp} {sb : Nat} {p : Int} {a m : Nat} {R R' : Nat → Nat → Int} {rb : Nat} {bk cp : Nat → Nat} {ks : Blk} (h : SY H sb p a m R rb bk cp ks) (hr : ∀ k x, k < m → x < a + 1 → R k x = R' k x) : SY H sb p a m R' rb bk cp ks := by
  refine { h with row := fun i hi => ?_ }
  obtain ⟨k2, g2, s2, c2⟩ := h.row i hi
  exact ⟨k2, g2, s2, fun x hx => by rw [← hr i x hi hx]; exact c2 x hx⟩

/-- Only rows have changed. -/
def Frm (H H' : Hp) (m : Nat) (bk : Nat → Nat) : Prop := ∀ x, (∀ k, k < m → x ≠ bk k) → H'.get x = H.get x

theorem Frm.set {H H' : Hp} {m : Nat} {bk : Nat → Nat} (h : Frm H H' m bk) {j : Nat} (hj : j < m) (c : Nat → SV) : Frm H (H'.set (bk j) c) m bk := fun x hx => by
  rw [Hp.get_set_other _ (fun q => hx j hj q.symm)]; exact h x hx

end Go.V

namespace Go.Proofs.YtgnphaopeplfbaaGreatDoor

open Go.V

variable [BW]

set_option linter.unusedSimpArgs false

set_option linter.unusedVariables false

set_option maxHeartbeats 4000000

/-- (*impl.system).clear -/
def ir78 : Cd := (.seq (.reg [⟨some 15,none,.mov (.t 0)⟩,⟨some 16,none,.ck (.t 15)⟩,⟨some 17,none,.fa 3 (.t 16)⟩,⟨some 18,none,.ld none (.t 17)⟩,⟨some 19,none,.mov (.t 1)⟩,⟨some 20,none,.isl 1 (.t 18) (.t 19)⟩,⟨some 21,none,.ld none (.t 20)⟩,⟨some 6,none,.mov (.t 21)⟩]) (.seq (.drw true [8] [⟨some 22,none,.mov (.t 0)⟩,⟨some 23,none,.ck (.t 22)⟩,⟨some 24,none,.fa 0 (.t 23)⟩,⟨some 25,none,.ld (some 2) (.t 24)⟩,⟨some 26,none,.mov (.t 6)⟩,⟨some 27,none,.mov (.t 2)⟩,⟨some 28,none,.isl 1 (.t 26) (.t 27)⟩,⟨some 29,none,.ld none (.t 28)⟩,⟨some 30,none,.call 107 [(.t 25),(.t 29)]⟩,⟨some 7,none,.mov (.t 30)⟩]) (.seq (.seq (.reg [⟨some 31,none,.mov (.t 6)⟩,⟨some 32,none,.len (.t 31)⟩,⟨some 33,none,.mov (.c (.int .i64 0))⟩]) (.block 0 (.loop (.seq (.reg [⟨some 34,none,.bin .lss (.t 33) (.t 32)⟩]) (.seq (.cond (.t 34) .skip (.exit 0)) (.seq (.block 1 (.seq (.reg [⟨some 35,none,.mov (.t 33)⟩,⟨some 36,none,.isl 1 (.t 31) (.t 33)⟩,⟨some 37,none,.ld none (.t 36)⟩,⟨some 8,none,.mov (.t 35)⟩,⟨some 9,none,.mov (.t 37)⟩]) (.reg [⟨some 38,none,.mov (.t 6)⟩,⟨some 39,none,.mov (.t 8)⟩,⟨some 40,none,.mov (.t 0)⟩,⟨some 41,none,.ck (.t 40)⟩,⟨some 42,none,.fa 0 (.t 41)⟩,⟨some 43,none,.ld (some 2) (.t 42)⟩,⟨some 44,none,.mov (.t 7)⟩,⟨some 45,none,.mov (.t 9)⟩,⟨some 46,none,.cv .i64 (.t 45)⟩,⟨some 47,none,.bin .mul (.t 44) (.t 46)⟩,⟨some 48,none,.call 75 [(.t 43),(.t 47)]⟩,⟨some 49,none,.isl 1 (.t 38) (.t 39)⟩,⟨none,none,.st 1 (.t 49) (.t 48)⟩]))) (.reg [⟨some 50,none,.bin .add (.t 33) (.c (.int .i64 1))⟩,⟨some 33,none,.mov (.t 50)⟩]))))))) (.seq (.reg [⟨some 51,none,.mov (.t 0)⟩,⟨some 52,none,.ck (.t 51)⟩,⟨some 53,none,.fa 3 (.t 52)⟩,⟨some 54,none,.ld none (.t 53)⟩,⟨some 55,none,.len (.t 54)⟩,⟨some 56,none,.mov (.c (.int .i64 0))⟩]) (.block 2 (.loop (.seq (.reg [⟨some 57,none,.bin .lss (.t 56) (.t 55)⟩]) (.seq (.cond (.t 57) .skip (.exit 2)) (.seq (.block 3 (.seq (.reg [⟨some 58,none,.mov (.t 56)⟩,⟨some 59,none,.isl 1 (.t 54) (.t 56)⟩,⟨some 60,none,.ld none (.t 59)⟩,⟨some 10,none,.mov (.t 58)⟩,⟨some 11,none,.mov (.t 60)⟩]) (.seq (.seq (.reg [⟨some 61,none,.mov (.t 10)⟩,⟨some 62,none,.mov (.t 1)⟩,⟨some 63,none,.bin .eql (.t 61) (.t 62)⟩,⟨some 64,none,.mov (.t 63)⟩,⟨some 65,(some (64,false)),.mov (.t 11)⟩,⟨some 66,(some (64,false)),.mov (.t 2)⟩,⟨some 67,(some (64,false)),.isl 1 (.t 65) (.t 66)⟩,⟨some 68,(some (64,false)),.ld none (.t 67)⟩,⟨some 69,(some (64,false)),.bin .eql (.t 68) (.c (.int .u8 0))⟩,⟨some 70,none,.pick (.t 64) (.c (.bool true)) (.t 69)⟩]) (.cond (.t 70) (.exit 3) .skip)) (.seq (.reg [⟨some 71,none,.mov (.t 11)⟩,⟨some 72,none,.mov (.t 2)⟩,⟨some 73,none,.isl 1 (.t 71) (.t 72)⟩,⟨some 74,none,.ld none (.t 73)⟩,⟨some 75,none,.cv .i64 (.t 74)⟩,⟨some 12,none,.mov (.t 75)⟩]) (.seq (.reg [⟨some 76,none,.mov (.t 6)⟩,⟨some 77,none,.len (.t 76)⟩,⟨some 78,none,.mov (.c (.int .i64 0))⟩]) (.block 4 (.loop (.seq (.reg [⟨some 79,none,.bin .lss (.t 78) (.t 77)⟩]) (.seq (.cond (.t 79) .skip (.exit 4)) (.seq (.block 5 (.seq (.reg [⟨some 80,none,.mov (.t 78)⟩,⟨some 81,none,.isl 1 (.t 76) (.t 78)⟩,⟨some 82,none,.ld none (.t 81)⟩,⟨some 13,none,.mov (.t 80)⟩,⟨some 14,none,.mov (.t 82)⟩]) (.drw true [18] [⟨some 83,none,.mov (.t 11)⟩,⟨some 84,none,.mov (.t 13)⟩,⟨some 85,none,.mov (.t 0)⟩,⟨some 86,none,.ck (.t 85)⟩,⟨some 87,none,.fa 0 (.t 86)⟩,⟨some 88,none,.ld (some 2) (.t 87)⟩,⟨some 89,none,.mov (.t 11)⟩,⟨some 90,none,.mov (.t 13)⟩,⟨some 91,none,.isl 1 (.t 89) (.t 90)⟩,⟨some 92,none,.ld none (.t 91)⟩,⟨some 93,none,.cv .i64 (.t 92)⟩,⟨some 94,none,.mov (.t 12)⟩,⟨some 95,none,.mov (.t 14)⟩,⟨some 96,none,.cv .i64 (.t 95)⟩,⟨some 97,none,.bin .mul (.t 94) (.t 96)⟩,⟨some 98,none,.bin .sub (.t 93) (.t 97)⟩,⟨some 99,none,.call 75 [(.t 88),(.t 98)]⟩,⟨some 100,none,.isl 1 (.t 83) (.t 84)⟩,⟨none,none,.st 1 (.t 100) (.t 99)⟩]))) (.reg [⟨some 101,none,.bin .add (.t 78) (.c (.int .i64 1))⟩,⟨some 78,none,.mov (.t 101)⟩]))))))))))) (.reg [⟨some 102,none,.bin .add (.t 56) (.c (.int .i64 1))⟩,⟨some 56,none,.mov (.t 102)⟩]))))))))))

set_option maxRecDepth 100000 in
theorem tr78 : trFn Tryz.prog Tryz.f78 = some (103, ir78, []) := by kernel_rfl

theorem system_clear (p : Int) (a m at' c : Nat) (R : Nat → Nat → Int) (sb rb : Nat) (bk cp : Nat → Nat) (ks : Blk) (H : Hp) (n : Nat) (hp : isP p = true) (ha : a ≤ 8) (hm : m ≤ 2000000) (hat : at' < m) (hc : c ≤ a)
    (hS : SY H sb p a m R rb bk cp ks) (hR : ∀ k x, k < m → x < a + 1 → 0 ≤ R k x ∧ R k x < p) (h0 : R at' c ≠ 0) :
    FnS Tryz.prog 78 [ptr sb 0, i64 at', i64 c] H n (fun r H' n' => r = .tup [] ∧ SY H' sb p a m (clr p R at' c) rb bk cp ks ∧ Frm H H' m bk) := by
  have hb := isP_le hp
  obtain ⟨gs, ss, s0, s1, s2, srow, hrow, qc, d1, d2, d3⟩ := id hS
  have hRc := hR at' c hat (by omega)
  have hfld : ∀ q, q < 2 → ks.c q = fldC p 0 q := fun q hq => by
    rcases (show q = 0 ∨ q = 1 by omega) with rfl | rfl
    · exact s0
    · exact s1
  rcases srow with ⟨_, rfl⟩ | ⟨ro, rcap, rk, r3, rg, rs, rm, rc⟩
  · omega
  have r3' : ks.c (0 + 3) = .slc rb ro m rcap := r3
  have rc1 : rk.c (ro + at' * 1) = .slc (bk at') 0 (a + 1) (cp (bk at')) := by rw [Nat.mul_one]; exact rc at' hat
  obtain ⟨kt, gt, st, ct⟩ := hrow at' hat
  have ct1 : kt.c (0 + c * 1) = .int .u8 (R at' c) := by rw [Nat.zero_add, Nat.mul_one]; exact ct c (by omega)
  have hRm : R at' c % p ≠ 0 := by rw [modSelf hRc]; exact h0
  obtain ⟨V, hV⟩ : ∃ V, V = inv p (R at' c) := ⟨_, rfl⟩
  have hVb : 0 ≤ V ∧ V ≤ 31 := by have := inv_spec hp hRm; rw [← hV] at this; omega
  refine FnS.of_body Tryz.func78 tr78 (by simp) (fun hf => ?_)
  dsimp only [argEnv]
  unfold ir78
  have hsn := getlt hf gs
  (repeat first|refine zG ?_|(refine LS.nilO ?_;intro nq hnq hltq;try refine zU ?_)|(refine MS.new ?_;intro bq hbq hbqf;try refine zU ?_)|(refine MS.nil ?_;intro nq hnq hltq;have hlq:=hltq _ _ (Hp.get_eq _ _ _);clear hltq;try refine zU ?_)|(refine LS.nilQ ?_;try with_reducible intro nq hnq;try refine zU ?_))
  refine RS.call rfl ((FnS.args (concs_cons (conc_arr hfld) rfl) (field_inverse p 0 (R at' c) _ _ hp (by omega) hRm)).mono ?_)
  rintro r H n1 hn1 ⟨rfl, rfl⟩
  (refine zG ?_)
  refine CS.iterJ (a + 1) (fun i => [(33, i64 (i : Nat)), (32, i64 ((a + 1 : Nat) : Int)), (31, .s (.slc (bk at') 0 (a + 1) (cp (bk at')))), (6, .s (.slc (bk at') 0 (a + 1) (cp (bk at')))), (7, i64 V), (0, ptr sb 0), (1, i64 at'), (2, i64 c)])
    (fun i H' _ => SY H' sb p a m (fun k x => if k = at' ∧ x < i then V * R at' x % p else R k x) rb bk cp ks ∧ Frm H H' m bk) (by rw [hV]; (repeat first | exact trivial | refine And.intro rfl ?_)) ⟨hS.same (fun k x _ _ => by rw [if_neg (by omega)]), fun x _ => rfl⟩ ?_
  rintro i n2 H2 hi hn2 ⟨hS2, hF2⟩
  have gs2 := hS2.g
  obtain ⟨kt2, gt2, st2, ct2⟩ := hS2.row at' hat
  (refine zG ?_)
  refine zI ?_ ?_<;>intro h3
  · have ct3 : kt2.c (0 + i * 1) = .int .u8 (R at' i) := by
      have := ct2 i (by omega)
      rw [if_neg (by omega)] at this
      rw [Nat.zero_add, Nat.mul_one]; exact this
    have hRi := hR at' i hat (by omega)
    have hmul := mulB hVb.1 hVb.2 hRi.1 (show R at' i ≤ 31 by omega)
    (refine zG ?_)
    refine RS.call rfl ((FnS.args (concs_cons (conc_arr hfld) rfl) (field_mod p 0 (V * R at' i) _ _ hb.1 hb.2 (by omega))).mono ?_)
    rintro r H2 n3 hn3 ⟨rfl, rfl⟩
    (refine zG ?_)
    refine ⟨by omega, by (repeat first | exact trivial | refine And.intro rfl ?_), _, Drops.refl _ _, (hS2.put (x0 := i) (v := V * R at' i % p) hat gt2 (by rw [Nat.zero_add, Nat.mul_one])).same (fun k x _ _ => ?_), hF2.set hat _⟩
    by_cases e1 : k = at'
    · subst e1
      by_cases e2 : x = i
      · subst e2; rw [if_pos ⟨rfl, rfl⟩, if_pos ⟨rfl, by omega⟩]
      · rw [if_neg (fun q => e2 q.2)]
        by_cases e3 : x < i
        · rw [if_pos ⟨rfl, e3⟩, if_pos ⟨rfl, by omega⟩]
        · rw [if_neg (fun q => e3 q.2), if_neg (by omega)]
    · rw [if_neg (fun q => e1 q.1), if_neg (fun q => e1 q.1), if_neg (fun q => e1 q.1)]
  · obtain rfl : i = a + 1 := by omega
    have hS3 : SY H2 sb p a m (fun k x => if k = at' ∨ k < 0 then clr p R at' c k x else R k x) rb bk cp ks := hS2.same (fun k x _ hx => by
      by_cases e1 : k = at'
      · rw [if_pos ⟨e1, hx⟩, if_pos (.inl e1)]; unfold clr; rw [if_pos e1, hV]
      · rw [if_neg (fun q => e1 q.1), if_neg (by omega)])
    have r3'' : ks.c (0 + 3) = .slc rb ro m rcap := r3
    (refine zG ?_)
    refine CS.iterJ m (fun k => [(56, i64 (k : Nat)), (55, i64 (m : Nat)), (54, .s (.slc rb ro m rcap)), (6, .s (.slc (bk at') 0 (a + 1) (cp (bk at')))), (0, ptr sb 0), (1, i64 at'), (2, i64 c)])
      (fun k H' _ => SY H' sb p a m (fun j x => if j = at' ∨ j < k then clr p R at' c j x else R j x) rb bk cp ks ∧ Frm H H' m bk) (by (repeat first | exact trivial | refine And.intro rfl ?_)) ⟨hS3, hF2⟩ ?_
    rintro k n3 H3 hk hn3 ⟨hS4, hF4⟩
    have gs4 := hS4.g
    have grb4 : H3.get rb = some rk := by rw [hF4 rb (fun j hj q => (d2 j hj).2 q.symm)]; exact rg
    (refine zG ?_)
    refine zI ?_ ?_<;>intro h4
    · have rc2 : rk.c (ro + k * 1) = .slc (bk k) 0 (a + 1) (cp (bk k)) := by rw [Nat.mul_one]; exact rc k (by omega)
      obtain ⟨kk, gk, sk, ck⟩ := hS4.row k (by omega)
      (refine zG ?_)
      refine RS.sp (t := 64) rfl (fun h5 => ?_) (fun h5 => ?_) <;> (try simp only [tb_eq, tb_eqF, decide_eq_true_eq, decide_eq_false_iff_not, beq_iff_eq, bne_iff_ne, ne_eq, Decidable.not_not, beq_eq_false_iff_ne, bne_eq_false_iff_eq, Bool.not_eq_true', Bool.not_eq_false', Bool.not_eq_eq_eq_not, Bool.not_true, Bool.not_false] at h5)
      · (refine zG ?_)
        refine ⟨by omega, by (repeat first | exact trivial | refine And.intro rfl ?_), H3, Drops.refl _ _, hS4.same (fun j x _ _ => ?_), hF4⟩
        by_cases e1 : j = at' ∨ j < k
        · rw [if_pos e1, if_pos (by omega)]
        · rw [if_neg e1, if_neg (by omega)]
      · have hRk := fun x (hx : x < a + 1) => hR k x (by omega) hx
        have ck0 : ∀ x, x < a + 1 → kk.c x = .int .u8 (R k x) := fun x hx => by
          rw [ck x hx, if_neg (by omega)]
        have ck1 : kk.c (0 + c * 1) = .int .u8 (R k c) := by rw [Nat.zero_add, Nat.mul_one]; exact ck0 c (by omega)
        (refine zG ?_)
        refine zI ?_ ?_<;>intro h6
        · (refine zG ?_)
          refine ⟨by omega, by (repeat first | exact trivial | refine And.intro rfl ?_), H3, Drops.refl _ _, hS4.same (fun j x _ hx => ?_), hF4⟩
          by_cases e1 : j = at' ∨ j < k
          · rw [if_pos e1, if_pos (by omega)]
          · by_cases e2 : j = k
            · subst e2
              rw [if_neg e1, if_pos (by omega)]
              unfold clr
              rw [if_neg (by omega), h6, Int.zero_mul, Int.sub_zero, modSelf (hRk x hx)]
            · rw [if_neg e1, if_neg (by omega)]
        · have hRkc := hRk c (by omega)
          (refine zG ?_)
          refine CS.iterJ (a + 1) (fun j => [(78, i64 (j : Nat)), (77, i64 ((a + 1 : Nat) : Int)), (76, .s (.slc (bk at') 0 (a + 1) (cp (bk at')))), (12, i64 (R k c)), (11, .s (.slc (bk k) 0 (a + 1) (cp (bk k)))), (56, i64 (k : Nat)), (55, i64 (m : Nat)), (54, .s (.slc rb ro m rcap)), (6, .s (.slc (bk at') 0 (a + 1) (cp (bk at')))), (0, ptr sb 0), (1, i64 at'), (2, i64 c)])
            (fun j H' _ => SY H' sb p a m (fun i x => if i = k ∧ x < j then clr p R at' c k x else if i = at' ∨ i < k then clr p R at' c i x else R i x) rb bk cp ks ∧ Frm H H' m bk) (by (repeat first | exact trivial | refine And.intro rfl ?_)) ⟨hS4.same (fun i x _ _ => by rw [if_neg (show ¬(i = k ∧ x < 0) by omega)]), hF4⟩ ?_
          rintro j n5 H5 hj hn5 ⟨hS5, hF5⟩
          have gs5 := hS5.g
          obtain ⟨kt5, gt5, st5, ct5⟩ := hS5.row at' hat
          obtain ⟨kk5, gk5, sk5, ck5⟩ := hS5.row k (by omega)
          (refine zG ?_)
          refine zI ?_ ?_<;>intro h7
          · obtain ⟨T, hT⟩ : ∃ T, T = clr p R at' c at' j := ⟨_, rfl⟩
            have hTb : 0 ≤ T ∧ T < p := by rw [hT]; unfold clr; rw [if_pos rfl]; exact modB _ hb.1
            have ct6 : kt5.c (0 + j * 1) = .int .u8 T := by
              rw [Nat.zero_add, Nat.mul_one, ct5 j (by omega), if_neg (by omega), if_pos (.inl rfl), hT]
            have ck6 : kk5.c (0 + j * 1) = .int .u8 (R k j) := by
              rw [Nat.zero_add, Nat.mul_one, ck5 j (by omega), if_neg (by omega), if_neg (by omega)]
            have hRkj := hRk j (by omega)
            have hmul := mulB hRkc.1 (show R k c ≤ 31 by omega) hTb.1 (show T ≤ 31 by omega)
            (refine zG ?_)
            refine LS.callQ (u8 ((R k j - R k c * T) % p)) rfl (fun n' hn' => FnS.args (concs_cons (conc_arr hfld) rfl) (field_mod p 0 (R k j - R k c * T) _ _ hb.1 hb.2 (by omega))) ?_
            (repeat first|refine zG ?_|(refine LS.nilO ?_;intro nq hnq hltq;try refine zU ?_)|(refine MS.new ?_;intro bq hbq hbqf;try refine zU ?_)|(refine MS.nil ?_;intro nq hnq hltq;have hlq:=hltq _ _ (Hp.get_eq _ _ _);clear hltq;try refine zU ?_)|(refine LS.nilQ ?_;try with_reducible intro nq hnq;try refine zU ?_))
            refine ⟨by omega, by (repeat first | exact trivial | refine And.intro rfl ?_), _, Drops.refl _ _, (hS5.put (x0 := j) (v := (R k j - R k c * T) % p) (by omega) gk5 (by rw [Nat.zero_add, Nat.mul_one])).same (fun i x _ _ => ?_), hF5.set (by omega) _⟩
            by_cases e1 : i = k
            · subst e1
              by_cases e2 : x = j
              · subst e2; rw [if_pos ⟨rfl, rfl⟩, if_pos ⟨rfl, by omega⟩, hT]; unfold clr; rw [if_pos rfl, if_neg (by omega)]
              · rw [if_neg (fun q => e2 q.2)]
                by_cases e3 : x < j
                · rw [if_pos ⟨rfl, e3⟩, if_pos ⟨rfl, by omega⟩]
                · rw [if_neg (fun q => e3 q.2), if_neg (show ¬(i = i ∧ x < j + 1) by omega)]
            · rw [if_neg (show ¬(i = k ∧ x = j) from fun q => e1 q.1), if_neg (show ¬(i = k ∧ x < j) from fun q => e1 q.1), if_neg (show ¬(i = k ∧ x < j + 1) from fun q => e1 q.1)]
          · obtain rfl : j = a + 1 := by omega
            (refine zG ?_)
            refine ⟨by omega, by (repeat first | exact trivial | refine And.intro rfl ?_), H5, Drops.refl _ _, hS5.same (fun i x _ hx => ?_), hF5⟩
            by_cases e1 : i = k
            · rw [if_pos ⟨e1, hx⟩, if_pos (by omega), e1]
            · rw [if_neg (fun q => e1 q.1)]
              by_cases e2 : i = at' ∨ i < k
              · rw [if_pos e2, if_pos (by omega)]
              · rw [if_neg e2, if_neg (by omega)]
    · obtain rfl : k = m := by omega
      (refine zG ?_)
      exact ⟨.tup [], H3, rfl, Drops.refl _ _, rfl, hS4.same (fun j x hj _ => by rw [if_pos (.inr hj)]), hF4⟩

end Go.Proofs.YtgnphaopeplfbaaGreatDoor

/- Systems of linear equations, the program's: the solution. -/

namespace Go.V

theorem tb_not_eq {x : Int} : tb (x ≠ 0) = (x != 0) := by
  by_cases h : x = 0
  · rw [tb_false (fun q => q h)]; simp [h]
  · rw [tb_true h]; simp [h]

end Go.V

namespace Go.Proofs.YtgnphaopeplfbaaGreatDoor

open Go.V

variable [BW]

set_option linter.unusedSimpArgs false

set_option linter.unusedVariables false

set_option maxHeartbeats 4000000

/-- (*impl.system).solve$1 -/
def ir77 : Cd := (.seq (.reg [⟨some 3,none,.mov (.c (.bool false))⟩]) (.seq (.reg [⟨some 4,none,.mov (.t 0)⟩,⟨some 5,none,.ld none (.t 1)⟩,⟨some 6,none,.isl 1 (.t 4) (.t 5)⟩,⟨some 7,none,.ld none (.t 6)⟩,⟨some 8,none,.bin .neq (.t 7) (.c (.int .u8 0))⟩,⟨some 3,none,.mov (.t 8)⟩]) .ret))

set_option maxRecDepth 100000 in
theorem tr77 : trFn Tryz.prog Tryz.f77 = some (9, ir77, [.tmp 3]) := by kernel_rfl

theorem system_solve_1 (R : Nat → Int) (a c b bc cp : Nat) (kr kc : Blk) (H : Hp) (n : Nat) (gr : H.get b = some kr) (sr : a + 1 ≤ kr.size) (cr : ∀ x, x < a + 1 → kr.c x = .int .u8 (R x)) (hc : c ≤ a)
    (gc : H.get bc = some kc) (sc : kc.size = 1) (cc : kc.c 0 = .int .i64 c) :
    FnS Tryz.prog 77 [.s (.slc b 0 (a + 1) cp), ptr bc 0] H n (fun r H' _ => r = bl (tb (R c ≠ 0)) ∧ H' = H) := by
  have cr1 : kr.c (0 + c * 1) = .int .u8 (R c) := by rw [Nat.zero_add, Nat.mul_one]; exact cr c (by omega)
  refine FnS.of_body Tryz.func77 tr77 (by simp) (fun hf => ?_)
  dsimp only [argEnv]
  unfold ir77
  (refine zG ?_)
  exact ⟨bl (tb (R c ≠ 0)), H, by rw [tb_not_eq], by exact zD, rfl, rfl⟩

/-- (*impl.system).solve$2 -/
def ir80 : Cd := (.seq (.reg [⟨some 3,none,.mov (.c (.bool false))⟩]) (.seq (.reg [⟨some 4,none,.mov (.t 0)⟩,⟨some 5,none,.ld none (.t 1)⟩,⟨some 6,none,.ck (.t 5)⟩,⟨some 7,none,.fa 2 (.t 6)⟩,⟨some 8,none,.ld none (.t 7)⟩,⟨some 9,none,.isl 1 (.t 4) (.t 8)⟩,⟨some 10,none,.ld none (.t 9)⟩,⟨some 11,none,.bin .neq (.t 10) (.c (.int .u8 0))⟩,⟨some 3,none,.mov (.t 11)⟩]) .ret))

set_option maxRecDepth 100000 in
theorem tr80 : trFn Tryz.prog Tryz.f80 = some (12, ir80, [.tmp 3]) := by kernel_rfl

theorem system_solve_2 (R : Nat → Int) (a b bs sb cp : Nat) (kr kb ks : Blk) (H : Hp) (n : Nat) (gr : H.get b = some kr) (sr : a + 1 ≤ kr.size) (cr : ∀ x, x < a + 1 → kr.c x = .int .u8 (R x))
    (gb : H.get bs = some kb) (s1 : kb.size = 1) (c1 : kb.c 0 = .ptr sb 0) (gs : H.get sb = some ks) (s5 : ks.size = 5) (c2 : ks.c 2 = .int .i64 a) :
    FnS Tryz.prog 80 [.s (.slc b 0 (a + 1) cp), ptr bs 0] H n (fun r H' _ => r = bl (tb (R a ≠ 0)) ∧ H' = H) := by
  have cr1 : kr.c (0 + a * 1) = .int .u8 (R a) := by rw [Nat.zero_add, Nat.mul_one]; exact cr a (by omega)
  have c2' : ks.c (0 + 2) = .int .i64 a := c2
  refine FnS.of_body Tryz.func80 tr80 (by simp) (fun hf => ?_)
  dsimp only [argEnv]
  unfold ir80
  (refine zG ?_)
  exact ⟨bl (tb (R a ≠ 0)), H, by rw [tb_not_eq], by exact zD, rfl, rfl⟩

/-- slices.IndexFunc[[][]byte,[]byte] -/
def ir76 : Cd := (.seq (.reg [⟨some 4,none,.mov (.c (.int .i64 0))⟩]) (.seq (.seq (.reg [⟨some 6,none,.mov (.t 0)⟩,⟨some 7,none,.len (.t 6)⟩,⟨some 8,none,.mov (.c (.int .i64 0))⟩]) (.block 0 (.loop (.seq (.reg [⟨some 9,none,.bin .lss (.t 8) (.t 7)⟩]) (.seq (.cond (.t 9) .skip (.exit 0)) (.seq (.block 1 (.seq (.reg [⟨some 10,none,.mov (.t 8)⟩,⟨some 5,none,.mov (.t 10)⟩]) (.seq (.reg [⟨some 11,none,.mov (.t 1)⟩,⟨some 12,none,.mov (.t 0)⟩,⟨some 13,none,.mov (.t 5)⟩,⟨some 14,none,.isl 1 (.t 12) (.t 13)⟩,⟨some 15,none,.ld none (.t 14)⟩,⟨some 16,none,.callv (.t 11) [(.t 15)]⟩]) (.cond (.t 16) (.seq (.reg [⟨some 17,none,.mov (.t 5)⟩,⟨some 4,none,.mov (.t 17)⟩]) .ret) .skip)))) (.reg [⟨some 18,none,.bin .add (.t 8) (.c (.int .i64 1))⟩,⟨some 8,none,.mov (.t 18)⟩]))))))) (.seq (.reg [⟨some 4,none,.mov (.c (.int .i64 (-1)))⟩]) .ret)))

set_option maxRecDepth 100000 in
theorem tr76 : trFn Tryz.prog Tryz.f76 = some (19, ir76, [.tmp 4]) := by kernel_rfl

theorem slices_IndexFuncR (Q : Nat → Prop) (F : FuncId) (post : List SV) (rb o len cap : Nat) (hl : len ≤ 4000000) (kr : Blk) (E : Nat → SV) (H : Hp) (n : Nat) (grb : H.get rb = some kr) (hs : o + len ≤ kr.size) (hE : ∀ i, i < len → kr.c (o + i) = E i)
    (hF : ∀ i n' : Nat, i < len → n ≤ n' → FnS Tryz.prog F ([.s (E i)] ++ post.map .s) H n' (fun r H' _ => r = bl (tb (Q i)) ∧ H' = H)) :
    FnS Tryz.prog 76 [.s (.slc rb o len cap), .s (.fn F [] post)] H n (fun r H' _ => (∃ x : Int, r = i64 x ∧ ((∃ i : Nat, x = i ∧ i < len ∧ Q i ∧ ∀ j, j < i → ¬Q j) ∨ (x = -1 ∧ ∀ j, j < len → ¬Q j))) ∧ H' = H) := by
  refine FnS.of_body Tryz.func76 tr76 (by simp) (fun hf => ?_)
  dsimp only [argEnv]
  unfold ir76
  (refine zG ?_)
  refine CS.iter len (fun i => [(8, i64 i), (7, i64 len), (0, .s (.slc rb o len cap)), (1, .s (.fn F [] post))]) (fun _ => H) (fun i => ∀ i', i' < i → ¬Q i') (by (repeat first | exact trivial | refine And.intro rfl ?_)) (Drops.refl _ _) (fun _ h => by omega) ?_
  intro i n1 hi hn hJ
  (refine zG ?_)
  refine zI ?_ ?_<;>intro h1
  · have hE1 : kr.c (o + i * 1) = E i := by rw [Nat.mul_one]; exact hE i (by omega)
    (refine zG ?_)
    refine RS.callv (f := F) (pre := []) (post := post) (vs := [.s (E i)]) (by exact rfl) (by exact rfl) ?_
    refine FnS.mono (hF i n1 (by omega) (by omega)) ?_
    rintro r H n2 hn2 ⟨rfl, rfl⟩
    (refine zG ?_)
    refine zI ?_ ?_<;>intro h2
    · (refine zG ?_)
      exact ⟨_, H, rfl, by exact zD, ⟨i, rfl, .inl ⟨i, rfl, by omega, h2, hJ⟩⟩, rfl⟩
    · (refine zG ?_)
      refine ⟨by omega, by (repeat first | exact trivial | refine And.intro rfl ?_), Drops.refl _ _, fun i' hi' => ?_⟩
      by_cases e : i' = i
      · subst e; exact h2
      · exact hJ i' (by omega)
  · obtain rfl : i = len := by omega
    (refine zG ?_)
    exact ⟨_, H, rfl, by exact zD, ⟨-1, rfl, .inr ⟨rfl, hJ⟩⟩, rfl⟩

/-- slices.ContainsFunc[[][]byte,[]byte] -/
def ir79 : Cd := (.seq (.reg [⟨some 4,none,.mov (.c (.bool false))⟩]) (.seq (.reg [⟨some 5,none,.mov (.t 0)⟩,⟨some 6,none,.mov (.t 1)⟩,⟨some 7,none,.call 76 [(.t 5),(.t 6)]⟩,⟨some 8,none,.bin .geq (.t 7) (.c (.int .i64 0))⟩,⟨some 4,none,.mov (.t 8)⟩]) .ret))

set_option maxRecDepth 100000 in
theorem tr79 : trFn Tryz.prog Tryz.f79 = some (9, ir79, [.tmp 4]) := by kernel_rfl

theorem slices_ContainsFuncR (Q : Nat → Prop) (F : FuncId) (post : List SV) (rb o len cap : Nat) (hl : len ≤ 4000000) (kr : Blk) (E : Nat → SV) (H : Hp) (n : Nat) (grb : H.get rb = some kr) (hs : o + len ≤ kr.size) (hE : ∀ i, i < len → kr.c (o + i) = E i)
    (hF : ∀ i n' : Nat, i < len → n ≤ n' → FnS Tryz.prog F ([.s (E i)] ++ post.map .s) H n' (fun r H' _ => r = bl (tb (Q i)) ∧ H' = H)) :
    FnS Tryz.prog 79 [.s (.slc rb o len cap), .s (.fn F [] post)] H n (fun r H' _ => r = bl (tb (∃ i, i < len ∧ Q i)) ∧ H' = H) := by
  refine FnS.of_body Tryz.func79 tr79 (by simp) (fun hf => ?_)
  dsimp only [argEnv]
  unfold ir79
  (refine zG ?_)
  refine RS.call rfl ((slices_IndexFuncR Q F post rb o len cap hl kr E _ _ grb hs hE hF).mono ?_)
  rintro r H n2 hn2 ⟨⟨x, rfl, hx⟩, rfl⟩
  have hx2 : 0 ≤ x ↔ ∃ i, i < len ∧ Q i := by
    rcases hx with ⟨i, rfl, h1, h2, _⟩ | ⟨rfl, h1⟩
    · exact ⟨fun _ => ⟨i, h1, h2⟩, fun _ => by omega⟩
    · exact ⟨fun h => by omega, fun ⟨i, h2, h3⟩ => absurd h3 (h1 i h2)⟩
  (refine zG ?_)
  exact ⟨_, H, rfl, by exact zD, by rw [← tb_iff hx2, tb_dec], rfl⟩

end Go.Proofs.YtgnphaopeplfbaaGreatDoor

/- Systems of linear equations, the program's: one solution of what is solved. -/

namespace Go.Proofs.YtgnphaopeplfbaaGreatDoor

open Go.V

variable [BW]

set_option linter.unusedSimpArgs false

set_option linter.unusedVariables false

set_option maxHeartbeats 4000000

/-- (*impl.system).one -/
def ir43 : Cd := (.seq (.reg [⟨some 2,none,.mov (.c .nils)⟩]) (.seq (.reg [⟨some 6,none,.mov (.t 0)⟩,⟨some 7,none,.ck (.t 6)⟩,⟨some 8,none,.fa 2 (.t 7)⟩,⟨some 9,none,.ld none (.t 8)⟩,⟨some 10,none,.mks 5 1 1 [(1,(.int .u8 0))] (.t 9) (.t 9)⟩,⟨some 3,none,.mov (.t 10)⟩]) (.seq (.seq (.reg [⟨some 11,none,.mov (.t 0)⟩,⟨some 12,none,.ck (.t 11)⟩,⟨some 13,none,.fa 4 (.t 12)⟩,⟨some 14,none,.ld none (.t 13)⟩,⟨some 15,none,.len (.t 14)⟩,⟨some 16,none,.mov (.c (.int .i64 0))⟩]) (.block 0 (.loop (.seq (.reg [⟨some 17,none,.bin .lss (.t 16) (.t 15)⟩]) (.seq (.cond (.t 17) .skip (.exit 0)) (.seq (.block 1 (.seq (.reg [⟨some 18,none,.mov (.t 16)⟩,⟨some 19,none,.isl 1 (.t 14) (.t 16)⟩,⟨some 20,none,.ld none (.t 19)⟩,⟨some 4,none,.mov (.t 18)⟩,⟨some 5,none,.mov (.t 20)⟩]) (.drw true [16] [⟨some 21,none,.mov (.t 3)⟩,⟨some 22,none,.mov (.t 5)⟩,⟨some 23,none,.mov (.t 0)⟩,⟨some 24,none,.ck (.t 23)⟩,⟨some 25,none,.fa 3 (.t 24)⟩,⟨some 26,none,.ld none (.t 25)⟩,⟨some 27,none,.mov (.t 4)⟩,⟨some 28,none,.isl 1 (.t 26) (.t 27)⟩,⟨some 29,none,.ld none (.t 28)⟩,⟨some 30,none,.mov (.t 0)⟩,⟨some 31,none,.ck (.t 30)⟩,⟨some 32,none,.fa 2 (.t 31)⟩,⟨some 33,none,.ld none (.t 32)⟩,⟨some 34,none,.isl 1 (.t 29) (.t 33)⟩,⟨some 35,none,.ld none (.t 34)⟩,⟨some 36,none,.isl 1 (.t 21) (.t 22)⟩,⟨none,none,.st 1 (.t 36) (.t 35)⟩]))) (.reg [⟨some 37,none,.bin .add (.t 16) (.c (.int .i64 1))⟩,⟨some 16,none,.mov (.t 37)⟩]))))))) (.seq (.reg [⟨some 38,none,.mov (.t 3)⟩,⟨some 2,none,.mov (.t 38)⟩]) .ret))))

set_option maxRecDepth 100000 in
theorem tr43 : trFn Tryz.prog Tryz.f43 = some (39, ir43, [.tmp 2]) := by kernel_rfl

theorem system_one (p : Int) (a d : Nat) (R : Nat → Nat → Int) (pl : Nat → Nat) (sb rb pb : Nat) (bk cp : Nat → Nat) (ks : Blk) (H : Hp) (n : Nat) (ha : a ≤ 8) (hd : d ≤ 8)
    (hS : SY H sb p a d R rb bk cp ks) (hP : SL H (ks.c 4) d (fun k => .int .i64 (pl k : Nat)) pb) (hpl : ∀ k, k < d → pl k < a) :
    FnS Tryz.prog 43 [ptr sb 0] H n (fun r H' _ => r = .s (.slc n 0 a a) ∧ ∃ k : Blk, H' = (n, k) :: H ∧ k.size = a ∧ ∀ x, x < a → k.c x = .int .u8 (sol R a pl d x)) := by
  obtain ⟨gs, ss, s0, s1, s2, srow, hrow, qc, d1, d2, d3⟩ := hS
  refine FnS.of_body Tryz.func43 tr43 (by simp) (fun hf => ?_)
  dsimp only [argEnv]
  unfold ir43
  have hsn := getlt hf gs
  have s2' : ks.c (0 + 2) = .int .i64 a := s2
  have s3' : ks.c (0 + 3) = ks.c 3 := rfl
  have s4' : ks.c (0 + 4) = ks.c 4 := rfl
  (repeat first|refine zG ?_|(refine LS.nilO ?_;intro nq hnq hltq;try refine zU ?_)|(refine MS.new ?_;intro bq hbq hbqf;try refine zU ?_)|(refine MS.nil ?_;intro nq hnq hltq;have hlq:=hltq _ _ (Hp.get_eq _ _ _);clear hltq;try refine zU ?_)|(refine LS.nilQ ?_;try with_reducible intro nq hnq;try refine zU ?_))
  refine RS.mks (len := a) (cap := a) (by exact rfl) (by exact rfl) rfl rfl (by omega) (by omega) (by omega) ?_
  rcases hP with ⟨h4, rfl⟩ | ⟨po, pcap, kp, h4, gp, sp, pm, cpp⟩
  · rw [h4] at s4'
    (repeat first|refine zG ?_|(refine LS.nilO ?_;intro nq hnq hltq;try refine zU ?_)|(refine MS.new ?_;intro bq hbq hbqf;try refine zU ?_)|(refine MS.nil ?_;intro nq hnq hltq;have hlq:=hltq _ _ (Hp.get_eq _ _ _);clear hltq;try refine zU ?_)|(refine LS.nilQ ?_;try with_reducible intro nq hnq;try refine zU ?_))
    refine CS.iter 0 (fun i => [(16, i64 (i : Nat)), (15, i64 0), (3, .s (.slc n 0 a a))]) (fun _ => (n, ⟨a, fun _ => .int .u8 0, 5⟩) :: H) (fun _ => True) (by (repeat first | exact trivial | refine And.intro rfl ?_)) (Drops.keepc (by (try dsimp only); omega) rfl (fun q hq => by (try dsimp only); rw [Nat.mod_one]; rfl) (Drops.refl _ _)) trivial ?_
    intro i n1 hi hn _
    obtain rfl : i = 0 := by omega
    (repeat first|refine zG ?_|(refine LS.nilO ?_;intro nq hnq hltq;try refine zU ?_)|(refine MS.new ?_;intro bq hbq hbqf;try refine zU ?_)|(refine MS.nil ?_;intro nq hnq hltq;have hlq:=hltq _ _ (Hp.get_eq _ _ _);clear hltq;try refine zU ?_)|(refine LS.nilQ ?_;try with_reducible intro nq hnq;try refine zU ?_))
    exact ⟨.s (.slc n 0 a a), _, rfl, Drops.refl _ _, rfl, _, rfl, rfl, fun x hx => rfl⟩
  · rw [h4] at s4'
    have hpn := getlt hf gp
    (repeat first|refine zG ?_|(refine LS.nilO ?_;intro nq hnq hltq;try refine zU ?_)|(refine MS.new ?_;intro bq hbq hbqf;try refine zU ?_)|(refine MS.nil ?_;intro nq hnq hltq;have hlq:=hltq _ _ (Hp.get_eq _ _ _);clear hltq;try refine zU ?_)|(refine LS.nilQ ?_;try with_reducible intro nq hnq;try refine zU ?_))
    refine CS.iter d (fun i => [(16, i64 (i : Nat)), (15, i64 (d : Nat)), (14, .s (.slc pb po d pcap)), (3, .s (.slc n 0 a a)), (0, ptr sb 0)]) (fun i => (n, ⟨a, fun x => .int .u8 (sol R a pl i x), 5⟩) :: H) (fun _ => True) (by (repeat first | exact trivial | refine And.intro rfl ?_)) (Drops.keepc (by (try dsimp only); omega) rfl (fun q hq => by (try dsimp only); rw [Nat.mod_one]; rfl) (Drops.refl _ _)) trivial ?_
    intro i n1 hi hn _
    (repeat first|refine zG ?_|(refine LS.nilO ?_;intro nq hnq hltq;try refine zU ?_)|(refine MS.new ?_;intro bq hbq hbqf;try refine zU ?_)|(refine MS.nil ?_;intro nq hnq hltq;have hlq:=hltq _ _ (Hp.get_eq _ _ _);clear hltq;try refine zU ?_)|(refine LS.nilQ ?_;try with_reducible intro nq hnq;try refine zU ?_))
    refine zI ?_ ?_<;>intro h5
    · have cp1 : kp.c (po + i * 1) = .int .i64 (pl i : Nat) := by rw [Nat.mul_one]; exact cpp i (by omega)
      rcases srow with ⟨_, rfl⟩ | ⟨ro, rcap, rk, r3, rg, rs, rm, rc⟩
      · omega
      rw [r3] at s3'
      have rc1 : rk.c (ro + i * 1) = .slc (bk i) 0 (a + 1) (cp (bk i)) := by rw [Nat.mul_one]; exact rc i (by omega)
      obtain ⟨ki, gi, si, ci⟩ := hrow i (by omega)
      have ci1 : ki.c (0 + a * 1) = .int .u8 (R i a) := by rw [Nat.zero_add, Nat.mul_one]; exact ci a (by omega)
      have hpi := hpl i (by omega)
      have hrn := getlt hf rg
      have hin := getlt hf gi
      (repeat first|refine zG ?_|(refine LS.nilO ?_;intro nq hnq hltq;try refine zU ?_)|(refine MS.new ?_;intro bq hbq hbqf;try refine zU ?_)|(refine MS.nil ?_;intro nq hnq hltq;have hlq:=hltq _ _ (Hp.get_eq _ _ _);clear hltq;try refine zU ?_)|(refine LS.nilQ ?_;try with_reducible intro nq hnq;try refine zU ?_))
      refine ⟨by omega, by (repeat first | exact trivial | refine And.intro rfl ?_), Drops.keepc rfl rfl (fun q hq => ?_) (Drops.refl _ _), trivial⟩
      (try dsimp only)
      rw [Nat.zero_add, Nat.mul_one]
      unfold put1
      show _ = SV.int IntKind.u8 (if q = pl i then R i a else sol R a pl i q)
      by_cases e : q = pl i
      · rw [if_pos e, if_pos e]
      · rw [if_neg e, if_neg e]
    · obtain rfl : i = d := by omega
      (repeat first|refine zG ?_|(refine LS.nilO ?_;intro nq hnq hltq;try refine zU ?_)|(refine MS.new ?_;intro bq hbq hbqf;try refine zU ?_)|(refine MS.nil ?_;intro nq hnq hltq;have hlq:=hltq _ _ (Hp.get_eq _ _ _);clear hltq;try refine zU ?_)|(refine LS.nilQ ?_;try with_reducible intro nq hnq;try refine zU ?_))
      exact ⟨.s (.slc n 0 a a), _, rfl, Drops.refl _ _, rfl, _, rfl, rfl, fun x hx => rfl⟩

end Go.Proofs.YtgnphaopeplfbaaGreatDoor
