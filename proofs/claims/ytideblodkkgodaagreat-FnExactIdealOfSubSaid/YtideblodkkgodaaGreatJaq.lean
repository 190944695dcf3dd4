/- Contracts of the program's functions. -/
import Derived.Test.YtideblodkkgodaaGreatJam
import Derived.Test.YtideblodkkgodaaGreatJal
import Derived.Test.YtideblodkkgodaaGreatJan
set_option linter.unusedSectionVars false
set_option linter.unusedVariables false
set_option linter.unusedSimpArgs false

namespace Go.Proofs.YtideblodkkgodaaGreat

open Go.V

variable [BW]

set_option linter.unusedSimpArgs false

set_option linter.unusedVariables false

set_option maxHeartbeats 4000000

/-- impl.in -/
def ir98 : Cd := (.seq (.reg [⟨some 6,none,.mov (.c (.bool false))⟩]) (.seq (.reg [⟨some 7,none,.mov (.t 1)⟩,⟨some 8,none,.mov (.t 0)⟩,⟨some 9,none,.bin .leq (.t 7) (.t 8)⟩,⟨some 10,none,.mov (.t 9)⟩,⟨some 11,(some (10,true)),.mov (.t 0)⟩,⟨some 12,(some (10,true)),.mov (.t 2)⟩,⟨some 13,(some (10,true)),.bin .leq (.t 11) (.t 12)⟩,⟨some 14,none,.pick (.t 10) (.t 13) (.c (.bool false))⟩,⟨some 6,none,.mov (.t 14)⟩]) .ret))

set_option maxRecDepth 100000 in
theorem tr98 : trFn Tryz.prog Tryz.f98 = some (15, ir98, [.tmp 6]) := by kernel_rfl

theorem impl_in (x a b : Int) (H : Hp) (n : Nat) :
    FnS Tryz.prog 98 [i64 x, i64 a, i64 b] H n (fun v H' _ => v = bl (decide (a ≤ x ∧ x ≤ b)) ∧ H' = H) := by
  refine FnS.of_body Tryz.func98 tr98 (by simp) (fun hf => ?_)
  dsimp only [argEnv]
  unfold ir98
  (refine zG ?_)
  refine RS.sp (t := 10) rfl (fun h => ?_) (fun h => ?_) <;> (try simp only [tb_eq, tb_eqF, decide_eq_true_eq, decide_eq_false_iff_not, beq_iff_eq, bne_iff_ne, ne_eq, Decidable.not_not, beq_eq_false_iff_ne, bne_eq_false_iff_eq, Bool.not_eq_true', Bool.not_eq_false', Bool.not_eq_eq_eq_not, Bool.not_true, Bool.not_false] at h)
  all_goals
    (refine zG ?_)
    exact ⟨_, H, rfl, by exact zD, by simp [h], rfl⟩

/-- impl.IsPrime -/
def ir97 : Cd := (.seq (.reg [⟨some 2,none,.mov (.c (.bool false))⟩]) (.seq (.seq (.reg [⟨some 4,none,.mov (.t 0)⟩,⟨some 5,none,.bin .lss (.t 4) (.c (.int .i64 2))⟩,⟨some 6,none,.mov (.t 5)⟩,⟨some 7,(some (6,false)),.mov (.t 0)⟩,⟨some 8,(some (6,false)),.bin .gtr (.t 7) (.c (.int .i64 31))⟩,⟨some 9,none,.pick (.t 6) (.c (.bool true)) (.t 8)⟩]) (.cond (.t 9) (.seq (.reg [⟨some 2,none,.mov (.c (.bool false))⟩]) .ret) .skip)) (.seq (.seq (.reg [⟨some 3,none,.mov (.c (.int .i64 2))⟩]) (.block 0 (.loop (.seq (.seq (.reg [⟨some 10,none,.mov (.t 3)⟩,⟨some 11,none,.mov (.t 3)⟩,⟨some 12,none,.bin .mul (.t 10) (.t 11)⟩,⟨some 13,none,.mov (.t 0)⟩,⟨some 14,none,.bin .leq (.t 12) (.t 13)⟩]) (.cond (.t 14) .skip (.exit 0))) (.seq (.block 1 (.seq (.reg [⟨some 17,none,.mov (.t 0)⟩,⟨some 18,none,.mov (.t 3)⟩,⟨some 19,none,.bin .rem (.t 17) (.t 18)⟩,⟨some 20,none,.bin .eql (.t 19) (.c (.int .i64 0))⟩]) (.cond (.t 20) (.seq (.reg [⟨some 2,none,.mov (.c (.bool false))⟩]) .ret) .skip))) (.reg [⟨some 15,none,.mov (.t 3)⟩,⟨some 16,none,.bin .add (.t 15) (.c (.int .i64 1))⟩,⟨some 3,none,.mov (.t 16)⟩])))))) (.seq (.reg [⟨some 2,none,.mov (.c (.bool true))⟩]) .ret))))

set_option maxRecDepth 100000 in
theorem tr97 : trFn Tryz.prog Tryz.f97 = some (21, ir97, [.tmp 2]) := by kernel_rfl

theorem impl_IsPrime (p : Int) (H : Hp) (n : Nat) :
    FnS Tryz.prog 97 [i64 p] H n (fun v H' _ => v = bl (isP p) ∧ H' = H) := by
  refine FnS.of_body Tryz.func97 tr97 (by simp) (fun hf => ?_)
  dsimp only [argEnv]
  unfold ir97
  (refine zG ?_)
  refine RS.sp (t := 6) rfl (fun h1 => ?_) (fun h1 => ?_) <;> (try simp only [tb_eq, tb_eqF, decide_eq_true_eq, decide_eq_false_iff_not, beq_iff_eq, bne_iff_ne, ne_eq, Decidable.not_not, beq_eq_false_iff_ne, bne_eq_false_iff_eq, Bool.not_eq_true', Bool.not_eq_false', Bool.not_eq_eq_eq_not, Bool.not_true, Bool.not_false] at h1)
  · (refine zG ?_)
    exact ⟨_, H, rfl, by exact zD, by rw [isP_out (.inl h1)], rfl⟩
  · (refine zG ?_)
    refine zI ?_ ?_<;>intro h2
    · skip
      (refine zG ?_)
      exact ⟨_, H, rfl, by exact zD, by rw [isP_out (.inr h2)], rfl⟩
    · skip
      (refine zG ?_)
      refine CS.iter 31 (fun i => [(3, i64 (i + 2 : Nat)), (0, i64 p)]) (fun _ => H) (fun i => i < 6 ∧ ∀ k : Nat, 2 ≤ k → k < i + 2 → p % k ≠ 0) ⟨rfl, rfl, trivial⟩ (Drops.refl _ _) ⟨by omega, fun k h1 h2 => by omega⟩ ?_
      intro i n1 hi hn ⟨hi6, hJ⟩
      have hsq : 0 ≤ ((i + 2 : Nat) : Int) * ((i + 2 : Nat) : Int) ∧ ((i + 2 : Nat) : Int) * ((i + 2 : Nat) : Int) ≤ 8 * 8 := mulB (by omega) (by omega) (by omega) (by omega)
      (refine zG ?_)
      refine zI ?_ ?_<;>intro h3
      · skip
        have hi4 : i + 2 < 6 := by
          rcases Nat.lt_or_ge (i + 2) 6 with h | h
          · exact h
          · have := mulB (a := 6) (b := 6) (A := ((i + 2 : Nat) : Int)) (B := ((i + 2 : Nat) : Int)) (by omega) (by omega) (by omega) (by omega)
            omega
        (refine zG ?_)
        refine zI ?_ ?_<;>intro h4
        · skip
          (refine zG ?_)
          exact ⟨_, H, rfl, by exact zD, by rw [isP_div (k := i + 2) (by omega) (by
            have : ((i + 2 : Nat) : Int) * 2 ≤ ((i + 2 : Nat) : Int) * ((i + 2 : Nat) : Int) := Int.mul_le_mul_of_nonneg_left (by omega) (by omega)
            omega) h4], rfl⟩
        · skip
          (refine zG ?_)
          refine ⟨by omega, by (repeat first | exact trivial | refine And.intro rfl ?_), by exact zD, by omega, fun k h5 h6 => ?_⟩
          by_cases h7 : k < i + 2
          · exact hJ k h5 h7
          · have : k = i + 2 := by omega
            subst this
            exact h4
      · skip
        (refine zG ?_)
        refine ⟨_, H, rfl, by exact zD, ?_, rfl⟩
        rw [isP_yes (by omega) (by omega) (fun k h5 h6 => hJ k h5 (by
          rcases Nat.lt_or_ge k (i + 2) with h | h
          · exact h
          · have h8 : (i + 2) * (i + 2) ≤ k * k := Nat.mul_le_mul h h
            have h9 : (((i + 2) * (i + 2) : Nat) : Int) ≤ ((k * k : Nat) : Int) := Int.ofNat_le.2 h8
            rw [Int.natCast_mul] at h9
            omega))]

/-- impl.basis -/
def ir33 : Cd := (.seq (.reg [⟨some 2,none,.new 32 [(8,(.int .u8 0))]⟩]) (.seq (.reg [⟨some 4,none,.build 8 [(8,(.int .u8 0))] []⟩,⟨some 3,none,.new 32 [(8,(.int .u8 0))]⟩,⟨none,none,.st 8 (.t 3) (.t 4)⟩]) (.seq (.reg [⟨some 5,none,.mov (.t 0)⟩,⟨some 6,none,.ia 8 1 (.t 3) (.t 5)⟩,⟨none,none,.st 1 (.t 6) (.c (.int .u8 1))⟩]) (.seq (.reg [⟨some 7,none,.ld (some 8) (.t 3)⟩,⟨none,none,.st 8 (.t 2) (.t 7)⟩]) .ret))))

set_option maxRecDepth 100000 in
theorem tr33 : trFn Tryz.prog Tryz.f33 = some (8, ir33, [.cell (some 8) 2]) := by kernel_rfl

theorem impl_basis (i : Nat) (H : Hp) (n : Nat) (hi : i < 8) :
    FnS Tryz.prog 33 [i64 i] H n (fun r H' _ => r = .arr 8 (bys (bas i)) ∧ H' = H) := by
  refine FnS.of_body Tryz.func33 tr33 (by simp) (fun hf => ?_)
  dsimp only [argEnv]
  unfold ir33
  (refine zG ?_)
  exact ⟨.arr 8 (bys (bas i)), H, conc_arr (fun q hq => by simp only [Nat.zero_add, put1, bys, bas]; split <;> rfl), by exact zD, rfl, rfl⟩

/-- (*impl.Coalgebra).field -/
def ir137 : Cd := (.seq (.reg [⟨some 2,none,.new 62 [(2,(.int .i64 0))]⟩]) (.seq (.drw true [9] [⟨some 3,none,.mov (.t 0)⟩,⟨some 4,none,.ck (.t 3)⟩,⟨some 5,none,.fa 0 (.t 4)⟩,⟨some 6,none,.ld none (.t 5)⟩,⟨some 7,none,.mov (.t 0)⟩,⟨some 8,none,.ck (.t 7)⟩,⟨some 9,none,.fa 1 (.t 8)⟩,⟨some 10,none,.ld none (.t 9)⟩,⟨some 11,none,.build 2 [(2,(.int .i64 0))] [(0,1,(.t 6)),(1,1,(.t 10))]⟩,⟨none,none,.st 2 (.t 2) (.t 11)⟩]) .ret))

set_option maxRecDepth 100000 in
theorem tr137 : trFn Tryz.prog Tryz.f137 = some (12, ir137, [.cell (some 2) 2]) := by kernel_rfl

theorem Coalgebra_field (p n' : Int) (b : Nat) (K : Blk) (H : Hp) (n : Nat) (hb : H.get b = some K) (hsz : K.size = 522) (h0 : K.c 0 = .int .i64 p) (h1 : K.c 1 = .int .i64 n')
    (hr : -9223372036854775808 ≤ p ∧ p ≤ 9223372036854775807 ∧ -9223372036854775808 ≤ n' ∧ n' ≤ 9223372036854775807) :
    FnS Tryz.prog 137 [ptr b 0] H n (fun r H' _ => r = fld p n' ∧ H' = H) := by
  refine FnS.of_body Tryz.func137 tr137 (by simp) (fun hf => ?_)
  dsimp only [argEnv]
  unfold ir137
  have hbn := getlt hf hb
  (repeat first|refine zG ?_|(refine LS.nilO ?_;intro nq hnq hltq;try refine zU ?_)|(refine MS.new ?_;intro bq hbq hbqf;try refine zU ?_)|(refine MS.nil ?_;intro nq hnq hltq;have hlq:=hltq _ _ (Hp.get_eq _ _ _);clear hltq;try refine zU ?_)|(refine LS.nilQ ?_;try with_reducible intro nq hnq;try refine zU ?_))
  exact ⟨fld p n', _, conc_arr (fldC_of rfl rfl), by exact zD, rfl, rfl⟩

/-- spec.l03Coalgebra -/
def ir111 : Cd := (.seq (.reg [⟨some 1,none,.box 38 (.t 0)⟩,⟨some 2,none,.new 122 [(2,(.int .i64 0)),(520,(.int .u8 0))]⟩]) (.seq (.reg [⟨some 3,none,.fa 0 (.t 1)⟩,⟨some 4,none,.ld none (.t 3)⟩,⟨some 5,none,.fa 1 (.t 1)⟩,⟨some 6,none,.ld none (.t 5)⟩,⟨some 7,none,.fa 522 (.t 1)⟩,⟨some 8,none,.ld (some 8) (.t 7)⟩,⟨some 9,none,.fa 530 (.t 1)⟩,⟨some 10,none,.ld (some 512) (.t 9)⟩,⟨some 11,none,.build 522 [(2,(.int .i64 0)),(520,(.int .u8 0))] [(0,1,(.t 4)),(1,1,(.t 6)),(2,8,(.t 8)),(10,512,(.t 10))]⟩,⟨none,none,.st 522 (.t 2) (.t 11)⟩]) .ret))

set_option maxRecDepth 100000 in
theorem tr111 : trFn Tryz.prog Tryz.f111 = some (12, ir111, [.cell (some 522) 2]) := by kernel_rfl

theorem spec_l03Coalgebra (K : Nat → SV) (h : HT) (H : Hp) (n : Nat) (hK : h.At K) :
    FnS Tryz.prog 111 [.arr 1106 K] H n (fun r H' _ => r = .arr 522 (coC K) ∧ H' = H) := by
  have c4 := coC_e hK
  have c5 := coC_c hK
  obtain ⟨k0, k1, k2, k3, k4, k5, k6⟩ := hK
  refine FnS.of_body Tryz.func111 tr111 (by simp) (fun hf => ?_)
  dsimp only [argEnv]
  unfold ir111
  (refine zG ?_)
  refine ⟨.arr 522 (coC K), H, conc_arr (fun q hq => ?_), by exact zD, rfl, rfl⟩
  simp only [Nat.zero_add, splice, put1]
  by_cases e0 : q < 2
  · rw [if_neg (by omega), if_neg (by omega)]
    by_cases e1 : q = 1
    · subst e1; rw [if_pos rfl]; exact k1.symm
    · have : q = 0 := by omega
      subst this; rw [if_neg (by omega), if_pos rfl]; exact k0.symm
  by_cases e1 : q < 10
  · rw [if_neg (by omega), if_pos (by omega)]
    have := c4 (q - 2) (by omega)
    rw [show 2 + (q - 2) = q by omega] at this
    rw [this]; rfl
  · rw [if_pos (by omega)]
    have := c5 (q - 10) (by omega)
    rw [show 10 + (q - 10) = q by omega] at this
    rw [this]; rfl

/-- spec.l03Counit -/
def ir113 : Cd := (.seq (.reg [⟨some 2,none,.box 38 (.t 0)⟩,⟨some 3,none,.box 32 (.t 1)⟩,⟨some 4,none,.mov (.c (.int .i64 0))⟩]) (.seq (.reg [⟨some 5,none,.mov (.c (.int .i64 0))⟩]) (.seq (.seq (.reg [⟨some 6,none,.mov (.c (.int .i64 0))⟩]) (.block 0 (.loop (.seq (.seq (.reg [⟨some 7,none,.mov (.t 6)⟩,⟨some 8,none,.fa 1 (.t 2)⟩,⟨some 9,none,.ld none (.t 8)⟩,⟨some 10,none,.bin .lss (.t 7) (.t 9)⟩]) (.cond (.t 10) .skip (.exit 0))) (.seq (.block 1 (.drw true [] [⟨some 13,none,.mov (.t 5)⟩,⟨some 14,none,.mov (.t 6)⟩,⟨some 15,none,.ia 8 1 (.t 3) (.t 14)⟩,⟨some 16,none,.ld none (.t 15)⟩,⟨some 17,none,.cv .i64 (.t 16)⟩,⟨some 18,none,.mov (.t 6)⟩,⟨some 19,none,.fa 522 (.t 2)⟩,⟨some 20,none,.ia 8 1 (.t 19) (.t 18)⟩,⟨some 21,none,.ld none (.t 20)⟩,⟨some 22,none,.cv .i64 (.t 21)⟩,⟨some 23,none,.bin .mul (.t 17) (.t 22)⟩,⟨some 24,none,.bin .add (.t 13) (.t 23)⟩,⟨some 5,none,.mov (.t 24)⟩])) (.reg [⟨some 11,none,.mov (.t 6)⟩,⟨some 12,none,.bin .add (.t 11) (.c (.int .i64 1))⟩,⟨some 6,none,.mov (.t 12)⟩])))))) (.seq (.reg [⟨some 25,none,.mov (.t 5)⟩,⟨some 26,none,.fa 0 (.t 2)⟩,⟨some 27,none,.ld none (.t 26)⟩,⟨some 28,none,.bin .rem (.t 25) (.t 27)⟩,⟨some 4,none,.mov (.t 28)⟩]) .ret))))

set_option maxRecDepth 100000 in
theorem tr113 : trFn Tryz.prog Tryz.f113 = some (29, ir113, [.tmp 4]) := by kernel_rfl

theorem spec_l03Counit (h : HT) (a : Nat) (v : Nat → Int) (K : Nat → SV) (H : Hp) (n : Nat) (hS : HS h a) (hK : h.At K) (hB : h.By) (hv : isBy 8 v) :
    FnS Tryz.prog 113 [.arr 1106 K, .arr 8 (bys v)] H n (fun r H' _ => r = i64 (dotk h.p h.e v 8) ∧ H' = H) := by
  have hp := hS.hp
  have ha := hS.ha
  have hk0 := hK.p
  have hk1 := hK.n
  rw [hS.hn] at hk1
  have hk5 := hK.e
  refine FnS.of_body Tryz.func113 tr113 (by simp) (fun hf => ?_)
  dsimp only [argEnv]
  unfold ir113
  (refine zG ?_)
  refine CS.iter a (fun i => [(6, i64 i), (5, i64 (sm (fun i => v i * h.e i) i)), (2, ptr n 0), (3, ptr (n + 1) 0)]) (fun _ => (n + 1, ⟨8, bys v, 32⟩) :: (n, ⟨1106, K, 38⟩) :: H) (fun _ => True) (by (repeat first | exact trivial | refine And.intro rfl ?_)) (Drops.refl _ _) trivial ?_
  intro i n1 hi hn _
  have hs := sm_b (f := fun i => v i * h.e i) (B := 65025) (n := i) (fun q hq => by
    have h1 := hv q (by omega)
    have h2 := hB.e q (by omega)
    exact mulB h1.1 h1.2 h2.1 h2.2)
  (refine zG ?_)
  refine zI ?_ ?_<;>intro h2
  · have hvi := hv i (by omega)
    have hei := hB.e i (by omega)
    have hve := mulB hvi.1 hvi.2 hei.1 hei.2
    (repeat first|refine zG ?_|(refine LS.nilO ?_;intro nq hnq hltq;try refine zU ?_)|(refine MS.new ?_;intro bq hbq hbqf;try refine zU ?_)|(refine MS.nil ?_;intro nq hnq hltq;have hlq:=hltq _ _ (Hp.get_eq _ _ _);clear hltq;try refine zU ?_)|(refine LS.nilQ ?_;try with_reducible intro nq hnq;try refine zU ?_))
    exact ⟨by omega, by (repeat first | exact trivial | refine And.intro rfl ?_), Drops.refl _ _, trivial⟩
  · have : i = a := by omega
    subst this
    (refine zG ?_)
    exact ⟨i64 (dotk h.p v h.e i), H, rfl, by exact zD, by rw [dotk_end ha (.inr hS.em), dotk_comm], rfl⟩

/-- impl.unless -/
def ir47 : Cd := (.seq (.reg [⟨some 4,none,.mov (.c (.int .i64 0))⟩]) (.seq (.seq (.reg [⟨some 5,none,.mov (.t 0)⟩]) (.cond (.t 5) (.seq (.reg [⟨some 4,none,.mov (.c (.int .i64 0))⟩]) .ret) .skip)) (.seq (.reg [⟨some 6,none,.mov (.t 1)⟩,⟨some 4,none,.mov (.t 6)⟩]) .ret)))

set_option maxRecDepth 100000 in
theorem tr47 : trFn Tryz.prog Tryz.f47 = some (7, ir47, [.tmp 4]) := by kernel_rfl

theorem impl_unless (Q : Prop) (H : Hp) (n : Nat) :
    FnS Tryz.prog 47 [bl (tb Q), i64 1] H n (fun r H' _ => r = i64 (cd Q) ∧ H' = H) := by
  refine FnS.of_body Tryz.func47 tr47 (by simp) (fun hf => ?_)
  dsimp only [argEnv]
  unfold ir47
  (refine zG ?_)
  refine zI ?_ ?_<;>intro h1
  · (refine zG ?_)
    exact ⟨_, H, rfl, by exact zD, by rw [cd_true h1], rfl⟩
  · (refine zG ?_)
    exact ⟨_, H, rfl, by exact zD, by rw [cd_false h1], rfl⟩

/-- slices.IndexFunc[[]impl.Vector,impl.Vector] -/
def ir96 : Cd := (.seq (.reg [⟨some 4,none,.mov (.c (.int .i64 0))⟩]) (.seq (.seq (.reg [⟨some 6,none,.mov (.t 0)⟩,⟨some 7,none,.len (.t 6)⟩,⟨some 8,none,.mov (.c (.int .i64 0))⟩]) (.block 0 (.loop (.seq (.reg [⟨some 9,none,.bin .lss (.t 8) (.t 7)⟩]) (.seq (.cond (.t 9) .skip (.exit 0)) (.seq (.block 1 (.seq (.reg [⟨some 10,none,.mov (.t 8)⟩,⟨some 5,none,.mov (.t 10)⟩]) (.seq (.reg [⟨some 11,none,.mov (.t 1)⟩,⟨some 12,none,.mov (.t 0)⟩,⟨some 13,none,.mov (.t 5)⟩,⟨some 14,none,.isl 8 (.t 12) (.t 13)⟩,⟨some 15,none,.ld (some 8) (.t 14)⟩,⟨some 16,none,.callv (.t 11) [(.t 15)]⟩]) (.cond (.t 16) (.seq (.reg [⟨some 17,none,.mov (.t 5)⟩,⟨some 4,none,.mov (.t 17)⟩]) .ret) .skip)))) (.reg [⟨some 18,none,.bin .add (.t 8) (.c (.int .i64 1))⟩,⟨some 8,none,.mov (.t 18)⟩]))))))) (.seq (.reg [⟨some 4,none,.mov (.c (.int .i64 (-1)))⟩]) .ret)))

set_option maxRecDepth 100000 in
theorem tr96 : trFn Tryz.prog Tryz.f96 = some (19, ir96, [.tmp 4]) := by kernel_rfl

theorem slices_IndexFunc (Q : Nat → Prop) (F : FuncId) (post : List SV) (v : SV) (len : Nat) (hl : len ≤ 4000000) (w : Nat → Int) (H : Hp) (n : Nat) (hv : lst H v len w)
    (hF : ∀ i n' : Nat, i < len → n ≤ n' → FnS Tryz.prog F ([.arr 8 (bys (fun x => w (i * 8 + x)))] ++ post.map .s) H n' (fun r H' _ => r = bl (tb (Q i)) ∧ H' = H)) :
    FnS Tryz.prog 96 [.s v, .s (.fn F [] post)] H n (fun r H' _ => (∃ x, r = i64 x ∧ (0 ≤ x ↔ ∃ i, i < len ∧ Q i)) ∧ H' = H) := by
  refine FnS.of_body Tryz.func96 tr96 (by simp) (fun hf => ?_)
  dsimp only [argEnv]
  unfold ir96
  rcases hv with ⟨rfl, rfl⟩ | ⟨b, o, c, K, rfl, hb, ho, hc⟩
  · (refine zG ?_)
    refine CS.iter 0 (fun i => [(8, i64 i), (7, i64 0)]) (fun _ => H) (fun _ => True) (by (repeat first | exact trivial | refine And.intro rfl ?_)) (Drops.refl _ _) trivial ?_
    intro i n1 hi hn _
    (refine zG ?_)
    exact ⟨_, H, rfl, by exact zD, ⟨-1, rfl, by omega, fun ⟨i, hi, _⟩ => by omega⟩, rfl⟩
  · (refine zG ?_)
    refine CS.iter len (fun i => [(8, i64 i), (7, i64 len), (0, .s (.slc b o len c)), (1, .s (.fn F [] post))]) (fun _ => H) (fun i => ∀ i', i' < i → ¬Q i') (by (repeat first | exact trivial | refine And.intro rfl ?_)) (Drops.refl _ _) (fun _ h => by omega) ?_
    intro i n1 hi hn hJ
    (refine zG ?_)
    refine zI ?_ ?_<;>intro h1
    · (refine zG ?_)
      refine RS.callv (f := F) (pre := []) (post := post) (vs := [.arr 8 (bys (fun x => w (i * 8 + x)))]) (by exact rfl) (by exact rfl) ?_
      refine FnS.mono (hF i n1 (by omega) (by omega)) ?_
      rintro r H n2 hn2 ⟨rfl, rfl⟩
      (refine zG ?_)
      refine zI ?_ ?_<;>intro h2
      · (refine zG ?_)
        exact ⟨_, H, rfl, by exact zD, ⟨i, rfl, fun _ => ⟨i, by omega, h2⟩, fun _ => by omega⟩, rfl⟩
      · (refine zG ?_)
        refine ⟨by omega, by (repeat first | exact trivial | refine And.intro rfl ?_), Drops.refl _ _, fun i' hi' => ?_⟩
        by_cases e : i' = i
        · subst e; exact h2
        · exact hJ i' (by omega)
    · have : i = len := by omega
      subst this
      (refine zG ?_)
      exact ⟨_, H, rfl, by exact zD, ⟨-1, rfl, by omega, fun ⟨i', hi', hq⟩ => absurd hq (hJ i' hi')⟩, rfl⟩

end Go.Proofs.YtideblodkkgodaaGreat
