/- Contracts of the program's functions. -/
import Derived.Test.YtmkegkpabifpfaaGreatJam
import Derived.Test.YtmkegkpabifpfaaGreatJal
import Derived.Test.YtmkegkpabifpfaaGreatJan
import Derived.Test.YtmkegkpabifpfaaGreatJao
namespace Go.Proofs.YtmkegkpabifpfaaGreat
open Go.V
set_option linter.unusedSimpArgs false
set_option linter.unusedVariables false
set_option maxHeartbeats 4000000
/-- spec.l01In -/
def ir42 : Cd := (.seq (.reg [⟨some 6,none,.mov (.c (.bool false))⟩]) (.seq (.reg [⟨some 7,none,.mov (.t 0)⟩,⟨some 8,none,.mov (.t 1)⟩,⟨some 9,none,.bin .geq (.t 7) (.t 8)⟩,⟨some 10,none,.mov (.t 9)⟩,⟨some 11,(some (10,true)),.mov (.t 0)⟩,⟨some 12,(some (10,true)),.mov (.t 2)⟩,⟨some 13,(some (10,true)),.bin .leq (.t 11) (.t 12)⟩,⟨some 14,none,.pick (.t 10) (.t 13) (.c (.bool false))⟩,⟨some 6,none,.mov (.t 14)⟩]) .ret))
set_option maxRecDepth 100000 in
theorem tr42 : trFn Tryz.prog Tryz.f42 = some (15, ir42, [.tmp 6]) := by kernel_rfl
theorem spec_l01In (x a b : Int) (H : Hp) (n : Nat) :
    FnS Tryz.prog 42 [i64 x, i64 a, i64 b] H n (fun v H' _ => v = bl (decide (a ≤ x ∧ x ≤ b)) ∧ H' = H) := by
  refine FnS.of_body Tryz.func42 tr42 (by simp) (fun hf => ?_)
  dsimp only [argEnv]
  unfold ir42
  (refine zG ?_)
  refine RS.sp (t := 10) rfl (fun h => ?_) (fun h => ?_) <;> (try simp only [tb_eq, tb_eqF, decide_eq_true_eq, decide_eq_false_iff_not, beq_iff_eq, bne_iff_ne, ne_eq, Decidable.not_not, beq_eq_false_iff_ne, bne_eq_false_iff_eq, Bool.not_eq_true', Bool.not_eq_false', Bool.not_eq_eq_eq_not, Bool.not_true, Bool.not_false] at h)
  all_goals
    (refine zG ?_)
    exact ⟨_, H, rfl, by exact zD, by simp [h], rfl⟩
/-- impl.IsPrime -/
def ir122 : Cd := (.seq (.reg [⟨some 2,none,.mov (.c (.bool false))⟩]) (.seq (.seq (.reg [⟨some 4,none,.mov (.t 0)⟩,⟨some 5,none,.bin .lss (.t 4) (.c (.int .i64 2))⟩,⟨some 6,none,.mov (.t 5)⟩,⟨some 7,(some (6,false)),.mov (.t 0)⟩,⟨some 8,(some (6,false)),.bin .gtr (.t 7) (.c (.int .i64 31))⟩,⟨some 9,none,.pick (.t 6) (.c (.bool true)) (.t 8)⟩]) (.cond (.t 9) (.seq (.reg [⟨some 2,none,.mov (.c (.bool false))⟩]) .ret) .skip)) (.seq (.seq (.reg [⟨some 3,none,.mov (.c (.int .i64 2))⟩]) (.block 0 (.loop (.seq (.seq (.reg [⟨some 10,none,.mov (.t 3)⟩,⟨some 11,none,.mov (.t 3)⟩,⟨some 12,none,.bin .mul (.t 10) (.t 11)⟩,⟨some 13,none,.mov (.t 0)⟩,⟨some 14,none,.bin .leq (.t 12) (.t 13)⟩]) (.cond (.t 14) .skip (.exit 0))) (.seq (.block 1 (.seq (.reg [⟨some 17,none,.mov (.t 0)⟩,⟨some 18,none,.mov (.t 3)⟩,⟨some 19,none,.bin .rem (.t 17) (.t 18)⟩,⟨some 20,none,.bin .eql (.t 19) (.c (.int .i64 0))⟩]) (.cond (.t 20) (.seq (.reg [⟨some 2,none,.mov (.c (.bool false))⟩]) .ret) .skip))) (.reg [⟨some 15,none,.mov (.t 3)⟩,⟨some 16,none,.bin .add (.t 15) (.c (.int .i64 1))⟩,⟨some 3,none,.mov (.t 16)⟩])))))) (.seq (.reg [⟨some 2,none,.mov (.c (.bool true))⟩]) .ret))))
set_option maxRecDepth 100000 in
theorem tr122 : trFn Tryz.prog Tryz.f122 = some (21, ir122, [.tmp 2]) := by kernel_rfl
theorem impl_IsPrime (p : Int) (H : Hp) (n : Nat) :
    FnS Tryz.prog 122 [i64 p] H n (fun v H' _ => v = bl (isP p) ∧ H' = H) := by
  refine FnS.of_body Tryz.func122 tr122 (by simp) (fun hf => ?_)
  dsimp only [argEnv]
  unfold ir122
  (refine zG ?_)
  refine RS.sp (t := 6) rfl (fun h1 => ?_) (fun h1 => ?_) <;> (try simp only [tb_eq, tb_eqF, decide_eq_true_eq, decide_eq_false_iff_not, beq_iff_eq, bne_iff_ne, ne_eq, Decidable.not_not, beq_eq_false_iff_ne, bne_eq_false_iff_eq, Bool.not_eq_true', Bool.not_eq_false', Bool.not_eq_eq_eq_not, Bool.not_true, Bool.not_false] at h1)
  · (refine zG ?_)
    exact ⟨_, H, rfl, by exact zD, by rw [isP_out (.inl h1)], rfl⟩
  · (refine zG ?_)
    refine zI ?_ ?_<;>intro h2
    · skip
      (refine zG ?_)
      exact ⟨_, H, rfl, by exact zD, by rw [isP_out (.inr h2)], rfl⟩
    · skip
      (refine zG ?_)
      refine CS.iter 31 (fun i => [(3, i64 (i + 2 : Nat)), (0, i64 p)]) (fun _ => H) (fun i => i < 6 ∧ ∀ k : Nat, 2 ≤ k → k < i + 2 → p % k ≠ 0) ⟨rfl, rfl, trivial⟩ (Drops.refl _ _) ⟨by omega, fun k h1 h2 => by omega⟩ ?_
      intro i n1 hi hn ⟨hi6, hJ⟩
      have hsq : 0 ≤ ((i + 2 : Nat) : Int) * ((i + 2 : Nat) : Int) ∧ ((i + 2 : Nat) : Int) * ((i + 2 : Nat) : Int) ≤ 8 * 8 := mulB (by omega) (by omega) (by omega) (by omega)
      (refine zG ?_)
      refine zI ?_ ?_<;>intro h3
      · skip
        have hi4 : i + 2 < 6 := by
          rcases Nat.lt_or_ge (i + 2) 6 with h | h
          · exact h
          · have := mulB (a := 6) (b := 6) (A := ((i + 2 : Nat) : Int)) (B := ((i + 2 : Nat) : Int)) (by omega) (by omega) (by omega) (by omega)
            omega
        (refine zG ?_)
        refine zI ?_ ?_<;>intro h4
        · skip
          (refine zG ?_)
          exact ⟨_, H, rfl, by exact zD, by rw [isP_div (k := i + 2) (by omega) (by
            have : ((i + 2 : Nat) : Int) * 2 ≤ ((i + 2 : Nat) : Int) * ((i + 2 : Nat) : Int) := Int.mul_le_mul_of_nonneg_left (by omega) (by omega)
            omega) h4], rfl⟩
        · skip
          (refine zG ?_)
          refine ⟨by omega, by (repeat first | exact trivial | refine And.intro rfl ?_), by exact zD, by omega, fun k h5 h6 => ?_⟩
          by_cases h7 : k < i + 2
          · exact hJ k h5 h7
          · have : k = i + 2 := by omega
            subst this
            exact h4
      · skip
        (refine zG ?_)
        refine ⟨_, H, rfl, by exact zD, ?_, rfl⟩
        rw [isP_yes (by omega) (by omega) (fun k h5 h6 => hJ k h5 (by
          rcases Nat.lt_or_ge k (i + 2) with h | h
          · exact h
          · have h8 : (i + 2) * (i + 2) ≤ k * k := Nat.mul_le_mul h h
            have h9 : (((i + 2) * (i + 2) : Nat) : Int) ≤ ((k * k : Nat) : Int) := Int.ofNat_le.2 h8
            rw [Int.natCast_mul] at h9
            omega))]
/-- impl.basis -/
def ir78 : Cd := (.seq (.reg [⟨some 2,none,.new 34 [(8,(.int .u8 0))]⟩]) (.seq (.reg [⟨some 4,none,.build 8 [(8,(.int .u8 0))] []⟩,⟨some 3,none,.new 34 [(8,(.int .u8 0))]⟩,⟨none,none,.st 8 (.t 3) (.t 4)⟩]) (.seq (.reg [⟨some 5,none,.mov (.t 0)⟩,⟨some 6,none,.ia 8 1 (.t 3) (.t 5)⟩,⟨none,none,.st 1 (.t 6) (.c (.int .u8 1))⟩]) (.seq (.reg [⟨some 7,none,.ld (some 8) (.t 3)⟩,⟨none,none,.st 8 (.t 2) (.t 7)⟩]) .ret))))
set_option maxRecDepth 100000 in
theorem tr78 : trFn Tryz.prog Tryz.f78 = some (8, ir78, [.cell (some 8) 2]) := by kernel_rfl
theorem impl_basis (i : Nat) (H : Hp) (n : Nat) (hi : i < 8) :
    FnS Tryz.prog 78 [i64 i] H n (fun r H' _ => r = .arr 8 (bys (bas i)) ∧ H' = H) := by
  refine FnS.of_body Tryz.func78 tr78 (by simp) (fun hf => ?_)
  dsimp only [argEnv]
  unfold ir78
  (refine zG ?_)
  exact ⟨.arr 8 (bys (bas i)), H, conc_arr (fun q hq => by simp only [Nat.zero_add, put1, bys, bas]; split <;> rfl), by exact zD, rfl, rfl⟩
/-- (*impl.Coalgebra).field -/
def ir133 : Cd := (.seq (.reg [⟨some 2,none,.new 76 [(2,(.int .i64 0))]⟩]) (.seq (.drw true [9] [⟨some 3,none,.mov (.t 0)⟩,⟨some 4,none,.ck (.t 3)⟩,⟨some 5,none,.fa 0 (.t 4)⟩,⟨some 6,none,.ld none (.t 5)⟩,⟨some 7,none,.mov (.t 0)⟩,⟨some 8,none,.ck (.t 7)⟩,⟨some 9,none,.fa 1 (.t 8)⟩,⟨some 10,none,.ld none (.t 9)⟩,⟨some 11,none,.build 2 [(2,(.int .i64 0))] [(0,1,(.t 6)),(1,1,(.t 10))]⟩,⟨none,none,.st 2 (.t 2) (.t 11)⟩]) .ret))
set_option maxRecDepth 100000 in
theorem tr133 : trFn Tryz.prog Tryz.f133 = some (12, ir133, [.cell (some 2) 2]) := by kernel_rfl
theorem Coalgebra_field (p n' : Int) (b : Nat) (K : Blk) (H : Hp) (n : Nat) (hb : H.get b = some K) (hsz : K.size = 522) (h0 : K.c 0 = .int .i64 p) (h1 : K.c 1 = .int .i64 n')
    (hr : -9223372036854775808 ≤ p ∧ p ≤ 9223372036854775807 ∧ -9223372036854775808 ≤ n' ∧ n' ≤ 9223372036854775807) :
    FnS Tryz.prog 133 [ptr b 0] H n (fun r H' _ => r = fld p n' ∧ H' = H) := by
  refine FnS.of_body Tryz.func133 tr133 (by simp) (fun hf => ?_)
  dsimp only [argEnv]
  unfold ir133
  have hbn := getlt hf hb
  (repeat first|refine zG ?_|(refine LS.nilO ?_;intro nq hnq hltq;try refine zU ?_)|(refine MS.new ?_;intro bq hbq hbqf;try refine zU ?_)|(refine MS.nil ?_;intro nq hnq hltq;have hlq:=hltq _ _ (Hp.get_eq _ _ _);clear hltq;try refine zU ?_)|(refine LS.nilQ ?_;try with_reducible intro nq hnq;try refine zU ?_))
  exact ⟨fld p n', _, conc_arr (fldC_of rfl rfl), by exact zD, rfl, rfl⟩
/-- spec.l03Coalgebra -/
def ir81 : Cd := (.seq (.reg [⟨some 1,none,.box 40 (.t 0)⟩,⟨some 2,none,.new 131 [(2,(.int .i64 0)),(520,(.int .u8 0))]⟩]) (.seq (.reg [⟨some 3,none,.fa 0 (.t 1)⟩,⟨some 4,none,.ld none (.t 3)⟩,⟨some 5,none,.fa 1 (.t 1)⟩,⟨some 6,none,.ld none (.t 5)⟩,⟨some 7,none,.fa 522 (.t 1)⟩,⟨some 8,none,.ld (some 8) (.t 7)⟩,⟨some 9,none,.fa 530 (.t 1)⟩,⟨some 10,none,.ld (some 512) (.t 9)⟩,⟨some 11,none,.build 522 [(2,(.int .i64 0)),(520,(.int .u8 0))] [(0,1,(.t 4)),(1,1,(.t 6)),(2,8,(.t 8)),(10,512,(.t 10))]⟩,⟨none,none,.st 522 (.t 2) (.t 11)⟩]) .ret))
set_option maxRecDepth 100000 in
theorem tr81 : trFn Tryz.prog Tryz.f81 = some (12, ir81, [.cell (some 522) 2]) := by kernel_rfl
theorem spec_l03Coalgebra (K : Nat → SV) (h : HT) (H : Hp) (n : Nat) (hK : h.At K) :
    FnS Tryz.prog 81 [.arr 1106 K] H n (fun r H' _ => r = .arr 522 (coC K) ∧ H' = H) := by
  have c4 := coC_e hK
  have c5 := coC_c hK
  obtain ⟨k0, k1, k2, k3, k4, k5, k6⟩ := hK
  refine FnS.of_body Tryz.func81 tr81 (by simp) (fun hf => ?_)
  dsimp only [argEnv]
  unfold ir81
  (refine zG ?_)
  refine ⟨.arr 522 (coC K), H, conc_arr (fun q hq => ?_), by exact zD, rfl, rfl⟩
  simp only [Nat.zero_add, splice, put1]
  by_cases e0 : q < 2
  · rw [if_neg (by omega), if_neg (by omega)]
    by_cases e1 : q = 1
    · subst e1; rw [if_pos rfl]; exact k1.symm
    · have : q = 0 := by omega
      subst this; rw [if_neg (by omega), if_pos rfl]; exact k0.symm
  by_cases e1 : q < 10
  · rw [if_neg (by omega), if_pos (by omega)]
    have := c4 (q - 2) (by omega)
    rw [show 2 + (q - 2) = q by omega] at this
    rw [this]; rfl
  · rw [if_pos (by omega)]
    have := c5 (q - 10) (by omega)
    rw [show 10 + (q - 10) = q by omega] at this
    rw [this]; rfl
/-- spec.l03Counit -/
def ir84 : Cd := (.seq (.reg [⟨some 2,none,.box 40 (.t 0)⟩,⟨some 3,none,.box 34 (.t 1)⟩,⟨some 4,none,.mov (.c (.int .i64 0))⟩]) (.seq (.reg [⟨some 5,none,.mov (.c (.int .i64 0))⟩]) (.seq (.seq (.reg [⟨some 6,none,.mov (.c (.int .i64 0))⟩]) (.block 0 (.loop (.seq (.seq (.reg [⟨some 7,none,.mov (.t 6)⟩,⟨some 8,none,.fa 1 (.t 2)⟩,⟨some 9,none,.ld none (.t 8)⟩,⟨some 10,none,.bin .lss (.t 7) (.t 9)⟩]) (.cond (.t 10) .skip (.exit 0))) (.seq (.block 1 (.drw true [] [⟨some 13,none,.mov (.t 5)⟩,⟨some 14,none,.mov (.t 6)⟩,⟨some 15,none,.ia 8 1 (.t 3) (.t 14)⟩,⟨some 16,none,.ld none (.t 15)⟩,⟨some 17,none,.cv .i64 (.t 16)⟩,⟨some 18,none,.mov (.t 6)⟩,⟨some 19,none,.fa 522 (.t 2)⟩,⟨some 20,none,.ia 8 1 (.t 19) (.t 18)⟩,⟨some 21,none,.ld none (.t 20)⟩,⟨some 22,none,.cv .i64 (.t 21)⟩,⟨some 23,none,.bin .mul (.t 17) (.t 22)⟩,⟨some 24,none,.bin .add (.t 13) (.t 23)⟩,⟨some 5,none,.mov (.t 24)⟩])) (.reg [⟨some 11,none,.mov (.t 6)⟩,⟨some 12,none,.bin .add (.t 11) (.c (.int .i64 1))⟩,⟨some 6,none,.mov (.t 12)⟩])))))) (.seq (.reg [⟨some 25,none,.mov (.t 5)⟩,⟨some 26,none,.fa 0 (.t 2)⟩,⟨some 27,none,.ld none (.t 26)⟩,⟨some 28,none,.bin .rem (.t 25) (.t 27)⟩,⟨some 4,none,.mov (.t 28)⟩]) .ret))))
set_option maxRecDepth 100000 in
theorem tr84 : trFn Tryz.prog Tryz.f84 = some (29, ir84, [.tmp 4]) := by kernel_rfl
theorem spec_l03Counit (h : HT) (a : Nat) (v : Nat → Int) (K : Nat → SV) (H : Hp) (n : Nat) (hS : HS h a) (hK : h.At K) (hB : h.By) (hv : isBy 8 v) :
    FnS Tryz.prog 84 [.arr 1106 K, .arr 8 (bys v)] H n (fun r H' _ => r = i64 (dotk h.p h.e v 8) ∧ H' = H) := by
  have hp := hS.hp
  have ha := hS.ha
  have hk0 := hK.p
  have hk1 := hK.n
  rw [hS.hn] at hk1
  have hk5 := hK.e
  refine FnS.of_body Tryz.func84 tr84 (by simp) (fun hf => ?_)
  dsimp only [argEnv]
  unfold ir84
  (refine zG ?_)
  refine CS.iter a (fun i => [(6, i64 i), (5, i64 (sm (fun i => v i * h.e i) i)), (2, ptr n 0), (3, ptr (n + 1) 0)]) (fun _ => (n + 1, ⟨8, bys v, 34⟩) :: (n, ⟨1106, K, 40⟩) :: H) (fun _ => True) (by (repeat first | exact trivial | refine And.intro rfl ?_)) (Drops.refl _ _) trivial ?_
  intro i n1 hi hn _
  have hs := sm_b (f := fun i => v i * h.e i) (B := 65025) (n := i) (fun q hq => by
    have h1 := hv q (by omega)
    have h2 := hB.e q (by omega)
    exact mulB h1.1 h1.2 h2.1 h2.2)
  (refine zG ?_)
  refine zI ?_ ?_<;>intro h2
  · have hvi := hv i (by omega)
    have hei := hB.e i (by omega)
    have hve := mulB hvi.1 hvi.2 hei.1 hei.2
    (repeat first|refine zG ?_|(refine LS.nilO ?_;intro nq hnq hltq;try refine zU ?_)|(refine MS.new ?_;intro bq hbq hbqf;try refine zU ?_)|(refine MS.nil ?_;intro nq hnq hltq;have hlq:=hltq _ _ (Hp.get_eq _ _ _);clear hltq;try refine zU ?_)|(refine LS.nilQ ?_;try with_reducible intro nq hnq;try refine zU ?_))
    exact ⟨by omega, by (repeat first | exact trivial | refine And.intro rfl ?_), Drops.refl _ _, trivial⟩
  · have : i = a := by omega
    subst this
    (refine zG ?_)
    exact ⟨i64 (dotk h.p v h.e i), H, rfl, by exact zD, by rw [dotk_end ha (.inr hS.em), dotk_comm], rfl⟩
/-- impl.unless -/
def ir32 : Cd := (.seq (.reg [⟨some 4,none,.mov (.c (.int .i64 0))⟩]) (.seq (.seq (.reg [⟨some 5,none,.mov (.t 0)⟩]) (.cond (.t 5) (.seq (.reg [⟨some 4,none,.mov (.c (.int .i64 0))⟩]) .ret) .skip)) (.seq (.reg [⟨some 6,none,.mov (.t 1)⟩,⟨some 4,none,.mov (.t 6)⟩]) .ret)))
set_option maxRecDepth 100000 in
theorem tr32 : trFn Tryz.prog Tryz.f32 = some (7, ir32, [.tmp 4]) := by kernel_rfl
theorem impl_unless (Q : Prop) (H : Hp) (n : Nat) :
    FnS Tryz.prog 32 [bl (tb Q), i64 1] H n (fun r H' _ => r = i64 (cd Q) ∧ H' = H) := by
  refine FnS.of_body Tryz.func32 tr32 (by simp) (fun hf => ?_)
  dsimp only [argEnv]
  unfold ir32
  (refine zG ?_)
  refine zI ?_ ?_<;>intro h1
  · (refine zG ?_)
    exact ⟨_, H, rfl, by exact zD, by rw [cd_true h1], rfl⟩
  · (refine zG ?_)
    exact ⟨_, H, rfl, by exact zD, by rw [cd_false h1], rfl⟩
/-- slices.IndexFunc[[]impl.Vector,impl.Vector] -/
def ir121 : Cd := (.seq (.reg [⟨some 4,none,.mov (.c (.int .i64 0))⟩]) (.seq (.seq (.reg [⟨some 6,none,.mov (.t 0)⟩,⟨some 7,none,.len (.t 6)⟩,⟨some 8,none,.mov (.c (.int .i64 0))⟩]) (.block 0 (.loop (.seq (.reg [⟨some 9,none,.bin .lss (.t 8) (.t 7)⟩]) (.seq (.cond (.t 9) .skip (.exit 0)) (.seq (.block 1 (.seq (.reg [⟨some 10,none,.mov (.t 8)⟩,⟨some 5,none,.mov (.t 10)⟩]) (.seq (.reg [⟨some 11,none,.mov (.t 1)⟩,⟨some 12,none,.mov (.t 0)⟩,⟨some 13,none,.mov (.t 5)⟩,⟨some 14,none,.isl 8 (.t 12) (.t 13)⟩,⟨some 15,none,.ld (some 8) (.t 14)⟩,⟨some 16,none,.callv (.t 11) [(.t 15)]⟩]) (.cond (.t 16) (.seq (.reg [⟨some 17,none,.mov (.t 5)⟩,⟨some 4,none,.mov (.t 17)⟩]) .ret) .skip)))) (.reg [⟨some 18,none,.bin .add (.t 8) (.c (.int .i64 1))⟩,⟨some 8,none,.mov (.t 18)⟩]))))))) (.seq (.reg [⟨some 4,none,.mov (.c (.int .i64 (-1)))⟩]) .ret)))
set_option maxRecDepth 100000 in
theorem tr121 : trFn Tryz.prog Tryz.f121 = some (19, ir121, [.tmp 4]) := by kernel_rfl
theorem slices_IndexFunc (Q : Nat → Prop) (F : FuncId) (post : List SV) (v : SV) (len : Nat) (hl : len ≤ 1000) (w : Nat → Int) (H : Hp) (n : Nat) (hv : lst H v len w)
    (hF : ∀ i n' : Nat, i < len → n ≤ n' → FnS Tryz.prog F ([.arr 8 (bys (fun x => w (i * 8 + x)))] ++ post.map .s) H n' (fun r H' _ => r = bl (tb (Q i)) ∧ H' = H)) :
    FnS Tryz.prog 121 [.s v, .s (.fn F [] post)] H n (fun r H' _ => (∃ x, r = i64 x ∧ (0 ≤ x ↔ ∃ i, i < len ∧ Q i)) ∧ H' = H) := by
  refine FnS.of_body Tryz.func121 tr121 (by simp) (fun hf => ?_)
  dsimp only [argEnv]
  unfold ir121
  rcases hv with ⟨rfl, rfl⟩ | ⟨b, o, c, K, rfl, hb, ho, hc⟩
  · (refine zG ?_)
    refine CS.iter 0 (fun i => [(8, i64 i), (7, i64 0)]) (fun _ => H) (fun _ => True) (by (repeat first | exact trivial | refine And.intro rfl ?_)) (Drops.refl _ _) trivial ?_
    intro i n1 hi hn _
    (refine zG ?_)
    exact ⟨_, H, rfl, by exact zD, ⟨-1, rfl, by omega, fun ⟨i, hi, _⟩ => by omega⟩, rfl⟩
  · (refine zG ?_)
    refine CS.iter len (fun i => [(8, i64 i), (7, i64 len), (0, .s (.slc b o len c)), (1, .s (.fn F [] post))]) (fun _ => H) (fun i => ∀ i', i' < i → ¬Q i') (by (repeat first | exact trivial | refine And.intro rfl ?_)) (Drops.refl _ _) (fun _ h => by omega) ?_
    intro i n1 hi hn hJ
    (refine zG ?_)
    refine zI ?_ ?_<;>intro h1
    · (refine zG ?_)
      refine RS.callv (f := F) (pre := []) (post := post) (vs := [.arr 8 (bys (fun x => w (i * 8 + x)))]) (by exact rfl) (by exact rfl) ?_
      refine FnS.mono (hF i n1 (by omega) (by omega)) ?_
      rintro r H n2 hn2 ⟨rfl, rfl⟩
      (refine zG ?_)
      refine zI ?_ ?_<;>intro h2
      · (refine zG ?_)
        exact ⟨_, H, rfl, by exact zD, ⟨i, rfl, fun _ => ⟨i, by omega, h2⟩, fun _ => by omega⟩, rfl⟩
      · (refine zG ?_)
        refine ⟨by omega, by (repeat first | exact trivial | refine And.intro rfl ?_), Drops.refl _ _, fun i' hi' => ?_⟩
        by_cases e : i' = i
        · subst e; exact h2
        · exact hJ i' (by omega)
    · have : i = len := by omega
      subst this
      (refine zG ?_)
      exact ⟨_, H, rfl, by exact zD, ⟨-1, rfl, by omega, fun ⟨i', hi', hq⟩ => absurd hq (hJ i' hi')⟩, rfl⟩
end Go.Proofs.YtmkegkpabifpfaaGreat

/- Contracts of the program's functions. -/
namespace Go.Proofs.YtmkegkpabifpfaaGreat
open Go.V
set_option linter.unusedSimpArgs false
set_option linter.unusedVariables false
set_option maxHeartbeats 4000000
/-- impl.IsVector -/
def ir100 : Cd := (.seq (.reg [⟨some 5,none,.box 34 (.t 2)⟩,⟨some 6,none,.mov (.c (.bool false))⟩]) (.seq (.seq (.reg [⟨some 9,none,.mov (.t 0)⟩,⟨some 10,none,.call 122 [(.t 9)]⟩,⟨some 11,none,.un .not (.t 10)⟩,⟨some 12,none,.mov (.t 11)⟩,⟨some 13,(some (12,false)),.mov (.t 1)⟩,⟨some 14,(some (12,false)),.call 123 [(.t 13),(.c (.int .i64 1)),(.c (.int .i64 8))]⟩,⟨some 15,(some (12,false)),.un .not (.t 14)⟩,⟨some 16,none,.pick (.t 12) (.c (.bool true)) (.t 15)⟩]) (.cond (.t 16) (.seq (.reg [⟨some 6,none,.mov (.c (.bool false))⟩]) .ret) .skip)) (.seq (.seq (.reg [⟨some 17,none,.ld (some 8) (.t 5)⟩,⟨some 18,none,.mov (.c (.int .i64 0))⟩]) (.block 0 (.loop (.seq (.reg [⟨some 19,none,.bin .lss (.t 18) (.c (.int .i64 8))⟩]) (.seq (.cond (.t 19) .skip (.exit 0)) (.seq (.block 1 (.seq (.reg [⟨some 20,none,.mov (.t 18)⟩,⟨some 21,none,.ix 8 1 none (.t 17) (.t 18)⟩,⟨some 7,none,.mov (.t 20)⟩,⟨some 8,none,.mov (.t 21)⟩]) (.seq (.reg [⟨some 22,none,.mov (.t 8)⟩,⟨some 23,none,.cv .i64 (.t 22)⟩,⟨some 24,none,.mov (.t 0)⟩,⟨some 25,none,.bin .geq (.t 23) (.t 24)⟩,⟨some 26,none,.mov (.t 25)⟩,⟨some 27,(some (26,false)),.mov (.t 7)⟩,⟨some 28,(some (26,false)),.mov (.t 1)⟩,⟨some 29,(some (26,false)),.bin .geq (.t 27) (.t 28)⟩,⟨some 30,(some (26,false)),.mov (.t 29)⟩,⟨some 31,(some (30,true)),.mov (.t 8)⟩,⟨some 32,(some (30,true)),.bin .neq (.t 31) (.c (.int .u8 0))⟩,⟨some 33,(some (26,false)),.pick (.t 30) (.t 32) (.c (.bool false))⟩,⟨some 34,none,.pick (.t 26) (.c (.bool true)) (.t 33)⟩]) (.cond (.t 34) (.seq (.reg [⟨some 6,none,.mov (.c (.bool false))⟩]) .ret) .skip)))) (.reg [⟨some 35,none,.bin .add (.t 18) (.c (.int .i64 1))⟩,⟨some 18,none,.mov (.t 35)⟩]))))))) (.seq (.reg [⟨some 6,none,.mov (.c (.bool true))⟩]) .ret))))
set_option maxRecDepth 100000 in
theorem tr100 : trFn Tryz.prog Tryz.f100 = some (36, ir100, [.tmp 6]) := by kernel_rfl
theorem impl_IsVector (p n' : Int) (v : Nat → Int) (H : Hp) (n : Nat) (hv : isBy 8 v) :
    FnS Tryz.prog 100 [i64 p, i64 n', .arr 8 (bys v)] H n (fun r H' _ => r = bl (tb (sz p n' ∧ isVec p n' v)) ∧ H' = H) := by
  refine FnS.of_body Tryz.func100 tr100 (by simp) (fun hf => ?_)
  dsimp only [argEnv]
  unfold ir100
  (refine zG ?_)
  refine RS.call rfl ((impl_IsPrime _ _ _).mono ?_)
  rintro r H' n2 hn2 ⟨rfl, rfl⟩
  (refine zG ?_)
  refine RS.sp (t := 12) rfl (fun h1 => ?_) (fun h1 => ?_) <;> (try simp only [tb_eq, tb_eqF, decide_eq_true_eq, decide_eq_false_iff_not, beq_iff_eq, bne_iff_ne, ne_eq, Decidable.not_not, beq_eq_false_iff_ne, bne_eq_false_iff_eq, Bool.not_eq_true', Bool.not_eq_false', Bool.not_eq_eq_eq_not, Bool.not_true, Bool.not_false] at h1)
  · (refine zG ?_)
    exact ⟨_, H, rfl, by exact zD, by rw [tb_false (fun h => by simp [h.1.1] at h1)], rfl⟩
  · (refine zG ?_)
    refine RS.call rfl ((impl_in _ _ _ _ _).mono ?_)
    rintro r H' n3 hn3 ⟨rfl, rfl⟩
    (refine zG ?_)
    refine zI ?_ ?_<;>intro h2
    · (refine zG ?_)
      exact ⟨_, H, rfl, by exact zD, by rw [tb_false (fun h => by simp [h.1.2] at h2)], rfl⟩
    · have h2 : 1 ≤ n' ∧ n' ≤ 8 := by simpa using h2
      (refine zG ?_)
      refine CS.iter 8 (fun i => [(18, i64 i), (17, .arr 8 (bys v)), (0, i64 p), (1, i64 n')]) (fun _ => (n, ⟨8, bys v, 34⟩) :: H) (fun i => ∀ j : Nat, j < i → v j < p ∧ (n' ≤ j → v j = 0)) (by (repeat first | exact trivial | refine And.intro rfl ?_)) (Drops.refl _ _) (fun j hj => by omega) ?_
      intro i n4 hi hn4 hJ
      (refine zG ?_)
      refine zI ?_ ?_<;>intro h3
      · have hvi := hv i (by omega)
        (refine zG ?_)
        refine RS.sp (t := 26) rfl (fun h4 => ?_) (fun h4 => ?_) <;> (try simp only [tb_eq, tb_eqF, decide_eq_true_eq, decide_eq_false_iff_not, beq_iff_eq, bne_iff_ne, ne_eq, Decidable.not_not, beq_eq_false_iff_ne, bne_eq_false_iff_eq, Bool.not_eq_true', Bool.not_eq_false', Bool.not_eq_eq_eq_not, Bool.not_true, Bool.not_false] at h4)
        · (refine zG ?_)
          exact ⟨_, H, rfl, by exact zD, by rw [tb_false (fun h => by have := (h.2 i (by omega)).1; omega)], rfl⟩
        · (refine zG ?_)
          refine RS.sp (t := 30) rfl (fun h5 => ?_) (fun h5 => ?_) <;> (try simp only [tb_eq, tb_eqF, decide_eq_true_eq, decide_eq_false_iff_not, beq_iff_eq, bne_iff_ne, ne_eq, Decidable.not_not, beq_eq_false_iff_ne, bne_eq_false_iff_eq, Bool.not_eq_true', Bool.not_eq_false', Bool.not_eq_eq_eq_not, Bool.not_true, Bool.not_false] at h5)
          · (refine zG ?_)
            refine zI ?_ ?_<;>intro h6
            · (refine zG ?_)
              exact ⟨_, H, rfl, by exact zD, by rw [tb_false (fun h => h6 ((h.2 i (by omega)).2 (by omega)))], rfl⟩
            · (refine zG ?_)
              refine ⟨by omega, by (repeat first | exact trivial | refine And.intro rfl ?_), by exact zD, fun j hj => ?_⟩
              by_cases e : j < i
              · exact hJ j e
              · have : j = i := by omega
                subst this; exact ⟨by omega, fun _ => h6⟩
          · (refine zG ?_)
            refine ⟨by omega, by (repeat first | exact trivial | refine And.intro rfl ?_), by exact zD, fun j hj => ?_⟩
            by_cases e : j < i
            · exact hJ j e
            · have : j = i := by omega
              subst this; exact ⟨by omega, fun h => by omega⟩
      · (refine zG ?_)
        exact ⟨_, H, rfl, by exact zD, by rw [tb_true ⟨⟨h1, h2⟩, fun j hj => hJ j (by omega)⟩], rfl⟩
/-- (*impl.Coalgebra).isFault -/
def ir135 : Cd := (.seq (.reg [⟨some 10,none,.mov (.c (.bool false))⟩]) (.seq (.reg [⟨some 15,none,.mov (.t 0)⟩,⟨some 16,none,.call 133 [(.t 15)]⟩,⟨some 11,none,.new 76 [(2,(.int .i64 0))]⟩,⟨none,none,.st 2 (.t 11) (.t 16)⟩,⟨some 12,none,.mov (.c (.int .i64 0))⟩,⟨some 13,none,.mov (.c (.int .i64 0))⟩]) (.seq (.seq (.reg [⟨some 17,none,.fa 1 (.t 11)⟩,⟨some 18,none,.ld none (.t 17)⟩,⟨some 19,none,.mov (.c (.int .i64 0))⟩]) (.block 0 (.loop (.seq (.reg [⟨some 20,none,.bin .lss (.t 19) (.t 18)⟩]) (.seq (.cond (.t 20) .skip (.exit 0)) (.seq (.block 1 (.seq (.reg [⟨some 21,none,.mov (.t 19)⟩,⟨some 14,none,.mov (.t 21)⟩]) (.seq (.drw true [] [⟨some 22,none,.mov (.t 12)⟩,⟨some 23,none,.mov (.t 0)⟩,⟨some 24,none,.mov (.t 1)⟩,⟨some 25,none,.mov (.t 14)⟩,⟨some 26,none,.mov (.t 4)⟩,⟨some 27,none,.ck (.t 23)⟩,⟨some 28,none,.fa 10 (.t 27)⟩,⟨some 29,none,.ia 8 64 (.t 28) (.t 24)⟩,⟨some 30,none,.ia 8 8 (.t 29) (.t 25)⟩,⟨some 31,none,.ia 8 1 (.t 30) (.t 26)⟩,⟨some 32,none,.ld none (.t 31)⟩,⟨some 33,none,.cv .i64 (.t 32)⟩,⟨some 34,none,.mov (.t 0)⟩,⟨some 35,none,.mov (.t 14)⟩,⟨some 36,none,.mov (.t 2)⟩,⟨some 37,none,.mov (.t 3)⟩,⟨some 38,none,.ck (.t 34)⟩,⟨some 39,none,.fa 10 (.t 38)⟩,⟨some 40,none,.ia 8 64 (.t 39) (.t 35)⟩,⟨some 41,none,.ia 8 8 (.t 40) (.t 36)⟩,⟨some 42,none,.ia 8 1 (.t 41) (.t 37)⟩,⟨some 43,none,.ld none (.t 42)⟩,⟨some 44,none,.cv .i64 (.t 43)⟩,⟨some 45,none,.bin .mul (.t 33) (.t 44)⟩,⟨some 46,none,.bin .add (.t 22) (.t 45)⟩,⟨some 12,none,.mov (.t 46)⟩]) (.drw true [] [⟨some 47,none,.mov (.t 13)⟩,⟨some 48,none,.mov (.t 0)⟩,⟨some 49,none,.mov (.t 1)⟩,⟨some 50,none,.mov (.t 2)⟩,⟨some 51,none,.mov (.t 14)⟩,⟨some 52,none,.ck (.t 48)⟩,⟨some 53,none,.fa 10 (.t 52)⟩,⟨some 54,none,.ia 8 64 (.t 53) (.t 49)⟩,⟨some 55,none,.ia 8 8 (.t 54) (.t 50)⟩,⟨some 56,none,.ia 8 1 (.t 55) (.t 51)⟩,⟨some 57,none,.ld none (.t 56)⟩,⟨some 58,none,.cv .i64 (.t 57)⟩,⟨some 59,none,.mov (.t 0)⟩,⟨some 60,none,.mov (.t 14)⟩,⟨some 61,none,.mov (.t 3)⟩,⟨some 62,none,.mov (.t 4)⟩,⟨some 63,none,.ck (.t 59)⟩,⟨some 64,none,.fa 10 (.t 63)⟩,⟨some 65,none,.ia 8 64 (.t 64) (.t 60)⟩,⟨some 66,none,.ia 8 8 (.t 65) (.t 61)⟩,⟨some 67,none,.ia 8 1 (.t 66) (.t 62)⟩,⟨some 68,none,.ld none (.t 67)⟩,⟨some 69,none,.cv .i64 (.t 68)⟩,⟨some 70,none,.bin .mul (.t 58) (.t 69)⟩,⟨some 71,none,.bin .add (.t 47) (.t 70)⟩,⟨some 13,none,.mov (.t 71)⟩])))) (.reg [⟨some 72,none,.bin .add (.t 19) (.c (.int .i64 1))⟩,⟨some 19,none,.mov (.t 72)⟩]))))))) (.seq (.drw true [] [⟨some 73,none,.mov (.t 12)⟩,⟨some 74,none,.fa 0 (.t 11)⟩,⟨some 75,none,.ld none (.t 74)⟩,⟨some 76,none,.bin .rem (.t 73) (.t 75)⟩,⟨some 77,none,.mov (.t 13)⟩,⟨some 78,none,.fa 0 (.t 11)⟩,⟨some 79,none,.ld none (.t 78)⟩,⟨some 80,none,.bin .rem (.t 77) (.t 79)⟩,⟨some 81,none,.bin .neq (.t 76) (.t 80)⟩,⟨some 10,none,.mov (.t 81)⟩]) .ret))))
set_option maxRecDepth 100000 in
theorem tr135 : trFn Tryz.prog Tryz.f135 = some (82, ir135, [.tmp 10]) := by kernel_rfl
theorem Coalgebra_isFault (p : Int) (a i j k l : Nat) (ii jj kk ll : Int) (c : Nat → Int) (b : Nat) (K : Blk) (H : Hp) (n : Nat) (hp : 2 ≤ p ∧ p ≤ 31) (ha : a ≤ 8) (hi : i < a ∧ ii = i) (hj : j < a ∧ jj = j) (hk : k < a ∧ kk = k) (hl : l < a ∧ ll = l)
    (hb : H.get b = some K) (hsz : K.size = 522) (h0 : K.c 0 = .int .i64 p) (h1 : K.c 1 = .int .i64 a) (hK : ∀ q, q < 512 → K.c (10 + q) = .int .u8 (c q)) (hc : isBy 512 c) :
    FnS Tryz.prog 135 [ptr b 0, i64 ii, i64 jj, i64 kk, i64 ll] H n (fun r H' _ => r = bl (!tb (cosum1 p c i j k l a = cosum2 p c i j k l a)) ∧ H' = H) := by
  obtain ⟨hi, rfl⟩ := hi
  obtain ⟨hj, rfl⟩ := hj
  obtain ⟨hk, rfl⟩ := hk
  obtain ⟨hl, rfl⟩ := hl
  refine FnS.of_body Tryz.func135 tr135 (by simp) (fun hf => ?_)
  dsimp only [argEnv]
  unfold ir135
  have hbn := getlt hf hb
  (refine zG ?_)
  refine RS.call rfl ((Coalgebra_field p a b K _ _ (by exact zH) hsz h0 h1 (by omega)).mono ?_)
  rintro r H n2 hn2 ⟨rfl, rfl⟩
  (refine zG ?_)
  refine CS.iter a (fun x => [(19, i64 x), (18, i64 a), (12, i64 (sm (fun a => c (64 * i + 8 * a + l) * c (64 * a + 8 * j + k)) x)), (13, i64 (sm (fun a => c (64 * i + 8 * j + a) * c (64 * a + 8 * k + l)) x)), (11, ptr n2 0), (0, ptr b 0), (1, i64 i), (2, i64 j), (3, i64 k), (4, i64 l)])
    (fun _ => (n2, ⟨2, fldC p a, 76⟩) :: H) (fun _ => True) (by (repeat first | exact trivial | refine And.intro rfl ?_)) (by exact zD) trivial ?_
  intro x n3 hx hn _
  have hs1 := sm_b (f := fun a => c (64 * i + 8 * a + l) * c (64 * a + 8 * j + k)) (B := 65025) (n := x) (fun q hq => by
    have h1 := hc (64 * i + 8 * q + l) (by omega)
    have h2 := hc (64 * q + 8 * j + k) (by omega)
    exact mulB h1.1 h1.2 h2.1 h2.2)
  have hs2 := sm_b (f := fun a => c (64 * i + 8 * j + a) * c (64 * a + 8 * k + l)) (B := 65025) (n := x) (fun q hq => by
    have h1 := hc (64 * i + 8 * j + q) (by omega)
    have h2 := hc (64 * q + 8 * k + l) (by omega)
    exact mulB h1.1 h1.2 h2.1 h2.2)
  (refine zG ?_)
  refine zI ?_ ?_<;>intro h2
  · have g1 := hc (64 * i + 8 * x + l) (by omega)
    have g2 := hc (64 * x + 8 * j + k) (by omega)
    have g3 := mulB g1.1 g1.2 g2.1 g2.2
    have g4 := hc (64 * i + 8 * j + x) (by omega)
    have g5 := hc (64 * x + 8 * k + l) (by omega)
    have g6 := mulB g4.1 g4.2 g5.1 g5.2
    (repeat first|refine zG ?_|(refine LS.nilO ?_;intro nq hnq hltq;try refine zU ?_)|(refine MS.new ?_;intro bq hbq hbqf;try refine zU ?_)|(refine MS.nil ?_;intro nq hnq hltq;have hlq:=hltq _ _ (Hp.get_eq _ _ _);clear hltq;try refine zU ?_)|(refine LS.nilQ ?_;try with_reducible intro nq hnq;try refine zU ?_))
    exact ⟨by omega, by (repeat first | exact trivial | refine And.intro rfl ?_), Drops.refl _ _, trivial⟩
  · have : x = a := by omega
    subst this
    (repeat first|refine zG ?_|(refine LS.nilO ?_;intro nq hnq hltq;try refine zU ?_)|(refine MS.new ?_;intro bq hbq hbqf;try refine zU ?_)|(refine MS.nil ?_;intro nq hnq hltq;have hlq:=hltq _ _ (Hp.get_eq _ _ _);clear hltq;try refine zU ?_)|(refine LS.nilQ ?_;try with_reducible intro nq hnq;try refine zU ?_))
    exact ⟨_, H, rfl, by exact zD, by rw [tb_dec]; rfl, rfl⟩
/-- (*impl.Hopf).counit -/
def ir131 : Cd := (.seq (.reg [⟨some 3,none,.box 34 (.t 1)⟩,⟨some 4,none,.mov (.c (.int .i64 0))⟩]) (.seq (.drwo true [7] [0,2,3,4,5,6,1,7,8] [⟨some 5,none,.mov (.t 0)⟩,⟨some 6,none,.call 129 [(.t 5)]⟩,⟨some 7,none,.mov (.t 0)⟩,⟨some 8,none,.ck (.t 7)⟩,⟨some 9,none,.fa 522 (.t 8)⟩,⟨some 10,none,.ld (some 8) (.t 9)⟩,⟨some 11,none,.ld (some 8) (.t 3)⟩,⟨some 12,none,.call 134 [(.t 6),(.t 10),(.t 11)]⟩,⟨some 4,none,.mov (.t 12)⟩]) .ret))
set_option maxRecDepth 100000 in
theorem tr131 : trFn Tryz.prog Tryz.f131 = some (13, ir131, [.tmp 4]) := by kernel_rfl
theorem Hopf_counit (h : HT) (a : Nat) (v : Nat → Int) (b : Nat) (K : Blk) (H : Hp) (n : Nat) (hS : HS h a) (hb : H.get b = some K) (hsz : K.size = 1106) (hK : h.At K.c) (hB : h.By) (hv : isBy 8 v) :
    FnS Tryz.prog 131 [ptr b 0, .arr 8 (bys v)] H n (fun r H' _ => r = i64 (dotk h.p h.e v 8) ∧ H' = H) := by
  have hp := hS.hp
  have ha := hS.ha
  have hk1 := hK.n
  rw [hS.hn] at hk1
  have hk5 := hK.e
  refine FnS.of_body Tryz.func131 tr131 (by simp) (fun hf => ?_)
  dsimp only [argEnv]
  unfold ir131
  have hbn := getlt hf hb
  (refine zG ?_)
  refine CS.quietLo ?_
  (refine zG ?_)
  refine LS.callQ (fld h.p a) rfl (fun n' hn' => Hopf_field h.p a b K _ _ (by exact zH) hsz hK.p hk1 (by omega)) ?_
  (refine zG ?_)
  refine LS.callQ (i64 (dotk h.p h.e v 8)) rfl (fun n' hn' => field_dot h.p a h.e v _ _ hp hB.e hv) ?_
  (repeat first|refine zG ?_|(refine LS.nilO ?_;intro nq hnq hltq;try refine zU ?_)|(refine MS.new ?_;intro bq hbq hbqf;try refine zU ?_)|(refine MS.nil ?_;intro nq hnq hltq;have hlq:=hltq _ _ (Hp.get_eq _ _ _);clear hltq;try refine zU ?_)|(refine LS.nilQ ?_;try with_reducible intro nq hnq;try refine zU ?_))
  exact ⟨_, H, rfl, by exact zD, rfl, rfl⟩
end Go.Proofs.YtmkegkpabifpfaaGreat

/- Contracts of the program's functions. -/
namespace Go.Proofs.YtmkegkpabifpfaaGreat
open Go.V
set_option linter.unusedSimpArgs false
set_option linter.unusedVariables false
set_option maxHeartbeats 4000000
/-- spec.l01Linear -/
def ir43 : Cd := (.seq (.reg [⟨some 5,none,.box 36 (.t 2)⟩,⟨some 6,none,.mov (.c (.bool false))⟩]) (.seq (.seq (.reg [⟨some 7,none,.mov (.c (.int .i64 0))⟩]) (.block 0 (.loop (.seq (.seq (.reg [⟨some 8,none,.mov (.t 7)⟩,⟨some 9,none,.bin .lss (.t 8) (.c (.int .i64 8))⟩]) (.cond (.t 9) .skip (.exit 0))) (.seq (.block 1 (.seq (.reg [⟨some 12,none,.mov (.t 0)⟩,⟨some 13,none,.mov (.t 1)⟩,⟨some 14,none,.mov (.t 7)⟩,⟨some 15,none,.ia 8 8 (.t 5) (.t 14)⟩,⟨some 16,none,.ld (some 8) (.t 15)⟩,⟨some 17,none,.call 61 [(.t 12),(.t 13),(.t 16)]⟩,⟨some 18,none,.un .not (.t 17)⟩,⟨some 19,none,.mov (.t 18)⟩,⟨some 20,(some (19,false)),.mov (.t 7)⟩,⟨some 21,(some (19,false)),.mov (.t 1)⟩,⟨some 22,(some (19,false)),.bin .geq (.t 20) (.t 21)⟩,⟨some 23,(some (19,false)),.mov (.t 22)⟩,⟨some 24,(some (23,true)),.mov (.t 7)⟩,⟨some 25,(some (23,true)),.ia 8 8 (.t 5) (.t 24)⟩,⟨some 26,(some (23,true)),.ld (some 8) (.t 25)⟩,⟨some 27,(some (23,true)),.build 8 [(8,(.int .u8 0))] []⟩,⟨some 28,(some (23,true)),.eqa true 8 (.t 26) (.t 27)⟩,⟨some 29,(some (19,false)),.pick (.t 23) (.t 28) (.c (.bool false))⟩,⟨some 30,none,.pick (.t 19) (.c (.bool true)) (.t 29)⟩]) (.cond (.t 30) (.seq (.reg [⟨some 6,none,.mov (.c (.bool false))⟩]) .ret) .skip))) (.reg [⟨some 10,none,.mov (.t 7)⟩,⟨some 11,none,.bin .add (.t 10) (.c (.int .i64 1))⟩,⟨some 7,none,.mov (.t 11)⟩])))))) (.seq (.reg [⟨some 6,none,.mov (.c (.bool true))⟩]) .ret)))
set_option maxRecDepth 100000 in
theorem tr43 : trFn Tryz.prog Tryz.f43 = some (31, ir43, [.tmp 6]) := by kernel_rfl
theorem spec_l01Linear (p n' : Int) (l : Nat → Int) (H : Hp) (n : Nat) (hl : isBy 64 l) :
    FnS Tryz.prog 43 [i64 p, i64 n', .arr 64 (bys l)] H n (fun r H' _ => r = bl (tb (isLin p n' n' l)) ∧ H' = H) := by
  have hk : ∀ i, i < 64 → bys l (0 + i) = .int .u8 (l i) := fun i _ => by rw [Nat.zero_add]; rfl
  refine FnS.of_body Tryz.func43 tr43 (by simp) (fun hf => ?_)
  dsimp only [argEnv]
  unfold ir43
  (refine zG ?_)
  refine CS.iter 8 (fun i => [(7, i64 i), (5, ptr n 0), (0, i64 p), (1, i64 n')]) (fun _ => (n, ⟨64, bys l, 36⟩) :: H) (fun i => ∀ j : Nat, j < i → isVec p n' (fun x => l (8 * j + x)) ∧ (n' ≤ j → ∀ x, x < 8 → l (8 * j + x) = 0)) (by (repeat first | exact trivial | refine And.intro rfl ?_)) (Drops.refl _ _) (fun j hj => by omega) ?_
  intro i n1 hi hn hJ
  (refine zG ?_)
  refine zI ?_ ?_<;>intro h1
  · (refine zG ?_)
    refine RS.call rfl ((spec_l01Vector p n' (fun x => l (8 * i + x)) _ _ (fun x hx => hl _ (by omega))).mono ?_)
    rintro r H' n2 hn2 ⟨rfl, rfl⟩
    (refine zG ?_)
    refine RS.sp (t := 19) rfl (fun h2 => ?_) (fun h2 => ?_) <;> (try simp only [tb_eq, tb_eqF, decide_eq_true_eq, decide_eq_false_iff_not, beq_iff_eq, bne_iff_ne, ne_eq, Decidable.not_not, beq_eq_false_iff_ne, bne_eq_false_iff_eq, Bool.not_eq_true', Bool.not_eq_false', Bool.not_eq_eq_eq_not, Bool.not_true, Bool.not_false] at h2)
    · (refine zG ?_)
      exact ⟨_, H, rfl, by exact zD, by rw [tb_false (fun h => h2 (h i (by omega)).1)], rfl⟩
    · (refine zG ?_)
      refine RS.sp (t := 23) rfl (fun h3 => ?_) (fun h3 => ?_) <;> (try simp only [tb_eq, tb_eqF, decide_eq_true_eq, decide_eq_false_iff_not, beq_iff_eq, bne_iff_ne, ne_eq, Decidable.not_not, beq_eq_false_iff_ne, bne_eq_false_iff_eq, Bool.not_eq_true', Bool.not_eq_false', Bool.not_eq_eq_eq_not, Bool.not_true, Bool.not_false] at h3)
      · (refine zG ?_)
        refine zI ?_ ?_<;>intro h4
        · (refine zG ?_)
          exact ⟨_, H, rfl, by exact zD, by rw [tb_false (fun h => h4 (fun x hx => (h i (by omega)).2 (by omega) x hx))], rfl⟩
        · (refine zG ?_)
          refine ⟨by omega, by (repeat first | exact trivial | refine And.intro rfl ?_), by exact zD, fun j hj => ?_⟩
          by_cases e : j < i
          · exact hJ j e
          · have : j = i := by omega
            subst this; exact ⟨h2, fun _ => h4⟩
      · (refine zG ?_)
        refine ⟨by omega, by (repeat first | exact trivial | refine And.intro rfl ?_), by exact zD, fun j hj => ?_⟩
        by_cases e : j < i
        · exact hJ j e
        · have : j = i := by omega
          subst this; exact ⟨h2, fun h => by omega⟩
  · (refine zG ?_)
    exact ⟨_, H, rfl, by exact zD, by rw [tb_true (show isLin p n' n' l from fun j hj => hJ j (by omega))], rfl⟩
/-- spec.l01Add -/
def ir26 : Cd := (.seq (.reg [⟨some 5,none,.box 34 (.t 1)⟩,⟨some 6,none,.box 34 (.t 2)⟩,⟨some 8,none,.new 34 [(8,(.int .u8 0))]⟩]) (.seq (.seq (.reg [⟨some 9,none,.mov (.c (.int .i64 0))⟩]) (.block 0 (.loop (.seq (.seq (.reg [⟨some 10,none,.mov (.t 9)⟩,⟨some 11,none,.bin .lss (.t 10) (.c (.int .i64 8))⟩]) (.cond (.t 11) .skip (.exit 0))) (.seq (.block 1 (.drw true [15] [⟨some 14,none,.mov (.t 9)⟩,⟨some 15,none,.mov (.t 0)⟩,⟨some 16,none,.mov (.t 9)⟩,⟨some 17,none,.ia 8 1 (.t 5) (.t 16)⟩,⟨some 18,none,.ld none (.t 17)⟩,⟨some 19,none,.cv .i64 (.t 18)⟩,⟨some 20,none,.mov (.t 3)⟩,⟨some 21,none,.mov (.t 9)⟩,⟨some 22,none,.ia 8 1 (.t 6) (.t 21)⟩,⟨some 23,none,.ld none (.t 22)⟩,⟨some 24,none,.cv .i64 (.t 23)⟩,⟨some 25,none,.bin .mul (.t 20) (.t 24)⟩,⟨some 26,none,.bin .add (.t 19) (.t 25)⟩,⟨some 27,none,.call 28 [(.t 15),(.t 26)]⟩,⟨some 28,none,.ia 8 1 (.t 5) (.t 14)⟩,⟨none,none,.st 1 (.t 28) (.t 27)⟩])) (.reg [⟨some 12,none,.mov (.t 9)⟩,⟨some 13,none,.bin .add (.t 12) (.c (.int .i64 1))⟩,⟨some 9,none,.mov (.t 13)⟩])))))) (.seq (.reg [⟨some 29,none,.ld (some 8) (.t 5)⟩,⟨none,none,.st 8 (.t 8) (.t 29)⟩]) .ret)))
set_option maxRecDepth 100000 in
theorem tr26 : trFn Tryz.prog Tryz.f26 = some (30, ir26, [.cell (some 8) 8]) := by kernel_rfl
theorem spec_l01Add (p k : Int) (v w : Nat → Int) (H : Hp) (n : Nat) (hp : 2 ≤ p ∧ p ≤ 31) (hv : isBy 8 v) (hw : isBy 8 w) (hk : 0 ≤ k ∧ k ≤ 100000) :
    FnS Tryz.prog 26 [i64 p, .arr 8 (bys v), .arr 8 (bys w), i64 k] H n (fun r H' _ => r = .arr 8 (bys (pl p v k w)) ∧ H' = H) := by
  refine FnS.of_body Tryz.func26 tr26 (by simp) (fun hf => ?_)
  dsimp only [argEnv]
  unfold ir26
  (refine zG ?_)
  refine CS.iter 8 (fun i => [(9, i64 i), (8, ptr (n + 2) 0), (6, ptr (n + 1) 0), (5, ptr n 0), (0, i64 p), (3, i64 k)])
    (fun i => (n + 2, ⟨8, bys (fun _ => 0), 34⟩) :: (n + 1, ⟨8, bys w, 34⟩) :: (n, ⟨8, bys (prt (pl p v k w) v i), 34⟩) :: H) (fun _ => True) (by (repeat first | exact trivial | refine And.intro rfl ?_))
    (Drops.keepc rfl rfl (fun _ _ => rfl) (Drops.keepc rfl rfl (fun _ _ => rfl) (by rw [prt_zero]; exact Drops.refl _ _))) trivial ?_
  intro i n1 hi hn _
  (refine zG ?_)
  refine zI ?_ ?_<;>intro h1
  · have hpi := prt_at (pl p v k w) v i
    have hvi := hv i (by omega)
    have hwi := hw i (by omega)
    have hm := mulB hk.1 hk.2 hwi.1 hwi.2
    have hb := modB (v i + k * w i) hp.1
    have hpl : (prt (pl p v k w) v i i + k * w i) % p = pl p v k w i := by rw [hpi]; rfl
    have hplb : 0 ≤ pl p v k w i ∧ pl p v k w i < p := hb
    (refine zG ?_)
    refine LS.callQ (u8 (pl p v k w i)) rfl (fun n' hn' => (spec_l01Mod p (prt (pl p v k w) v i i + k * w i) _ _ hp.1 hp.2 (by omega)).mono (fun r H' _ _ h => by rw [hpl] at h; exact h)) ?_
    (repeat first|refine zG ?_|(refine LS.nilO ?_;intro nq hnq hltq;try refine zU ?_)|(refine MS.new ?_;intro bq hbq hbqf;try refine zU ?_)|(refine MS.nil ?_;intro nq hnq hltq;have hlq:=hltq _ _ (Hp.get_eq _ _ _);clear hltq;try refine zU ?_)|(refine LS.nilQ ?_;try with_reducible intro nq hnq;try refine zU ?_))
    exact ⟨by omega, by (repeat first | exact trivial | refine And.intro rfl ?_), Drops.keepc rfl rfl (fun _ _ => rfl) (Drops.keepc rfl rfl (fun _ _ => rfl) (Drops.keepc rfl rfl (fun q hq => prt_put _ _ _ _) (Drops.refl _ _))), trivial⟩
  · have : i = 8 := by omega
    subst this
    (refine zG ?_)
    exact ⟨.arr 8 (bys (pl p v k w)), H, conc_arr (fun q hq => congrArg (SV.int .u8) (by simp only [Nat.zero_add]; exact prt_all _ _ _ _ hq)), by exact zD, rfl, rfl⟩
/-- spec.l02Sums -/
def ir124 : Cd := (.seq (.reg [⟨some 5,none,.box 131 (.t 0)⟩,⟨some 10,none,.mov (.c (.int .u8 0))⟩,⟨some 11,none,.mov (.c (.int .u8 0))⟩]) (.seq (.reg [⟨some 12,none,.mov (.c (.int .i64 0))⟩,⟨some 13,none,.mov (.c (.int .i64 0))⟩]) (.seq (.seq (.reg [⟨some 14,none,.mov (.c (.int .i64 0))⟩]) (.block 0 (.loop (.seq (.seq (.reg [⟨some 15,none,.mov (.t 14)⟩,⟨some 16,none,.fa 1 (.t 5)⟩,⟨some 17,none,.ld none (.t 16)⟩,⟨some 18,none,.bin .lss (.t 15) (.t 17)⟩]) (.cond (.t 18) .skip (.exit 0))) (.seq (.block 1 (.seq (.drw true [] [⟨some 21,none,.mov (.t 12)⟩,⟨some 22,none,.mov (.t 1)⟩,⟨some 23,none,.mov (.t 14)⟩,⟨some 24,none,.mov (.t 4)⟩,⟨some 25,none,.fa 10 (.t 5)⟩,⟨some 26,none,.ia 8 64 (.t 25) (.t 22)⟩,⟨some 27,none,.ia 8 8 (.t 26) (.t 23)⟩,⟨some 28,none,.ia 8 1 (.t 27) (.t 24)⟩,⟨some 29,none,.ld none (.t 28)⟩,⟨some 30,none,.cv .i64 (.t 29)⟩,⟨some 31,none,.mov (.t 14)⟩,⟨some 32,none,.mov (.t 2)⟩,⟨some 33,none,.mov (.t 3)⟩,⟨some 34,none,.fa 10 (.t 5)⟩,⟨some 35,none,.ia 8 64 (.t 34) (.t 31)⟩,⟨some 36,none,.ia 8 8 (.t 35) (.t 32)⟩,⟨some 37,none,.ia 8 1 (.t 36) (.t 33)⟩,⟨some 38,none,.ld none (.t 37)⟩,⟨some 39,none,.cv .i64 (.t 38)⟩,⟨some 40,none,.bin .mul (.t 30) (.t 39)⟩,⟨some 41,none,.bin .add (.t 21) (.t 40)⟩,⟨some 12,none,.mov (.t 41)⟩]) (.drw true [] [⟨some 42,none,.mov (.t 13)⟩,⟨some 43,none,.mov (.t 1)⟩,⟨some 44,none,.mov (.t 2)⟩,⟨some 45,none,.mov (.t 14)⟩,⟨some 46,none,.fa 10 (.t 5)⟩,⟨some 47,none,.ia 8 64 (.t 46) (.t 43)⟩,⟨some 48,none,.ia 8 8 (.t 47) (.t 44)⟩,⟨some 49,none,.ia 8 1 (.t 48) (.t 45)⟩,⟨some 50,none,.ld none (.t 49)⟩,⟨some 51,none,.cv .i64 (.t 50)⟩,⟨some 52,none,.mov (.t 14)⟩,⟨some 53,none,.mov (.t 3)⟩,⟨some 54,none,.mov (.t 4)⟩,⟨some 55,none,.fa 10 (.t 5)⟩,⟨some 56,none,.ia 8 64 (.t 55) (.t 52)⟩,⟨some 57,none,.ia 8 8 (.t 56) (.t 53)⟩,⟨some 58,none,.ia 8 1 (.t 57) (.t 54)⟩,⟨some 59,none,.ld none (.t 58)⟩,⟨some 60,none,.cv .i64 (.t 59)⟩,⟨some 61,none,.bin .mul (.t 51) (.t 60)⟩,⟨some 62,none,.bin .add (.t 42) (.t 61)⟩,⟨some 13,none,.mov (.t 62)⟩]))) (.reg [⟨some 19,none,.mov (.t 14)⟩,⟨some 20,none,.bin .add (.t 19) (.c (.int .i64 1))⟩,⟨some 14,none,.mov (.t 20)⟩])))))) (.seq (.drw true [7] [⟨some 63,none,.fa 0 (.t 5)⟩,⟨some 64,none,.ld none (.t 63)⟩,⟨some 65,none,.mov (.t 12)⟩,⟨some 66,none,.call 28 [(.t 64),(.t 65)]⟩,⟨some 67,none,.fa 0 (.t 5)⟩,⟨some 68,none,.ld none (.t 67)⟩,⟨some 69,none,.mov (.t 13)⟩,⟨some 70,none,.call 28 [(.t 68),(.t 69)]⟩,⟨some 10,none,.mov (.t 66)⟩,⟨some 11,none,.mov (.t 70)⟩]) .ret))))
set_option maxRecDepth 100000 in
theorem tr124 : trFn Tryz.prog Tryz.f124 = some (71, ir124, [.tmp 10, .tmp 11]) := by kernel_rfl
theorem spec_l02Sums (p : Int) (a i j k l : Nat) (ii jj kk ll : Int) (c : Nat → Int) (K : Nat → SV) (H : Hp) (n : Nat) (hp : 2 ≤ p ∧ p ≤ 31) (ha : a ≤ 8) (hi : i < a ∧ ii = i) (hj : j < a ∧ jj = j) (hk : k < a ∧ kk = k) (hl : l < a ∧ ll = l)
    (h0 : K 0 = .int .i64 p) (h1 : K 1 = .int .i64 a) (hK : ∀ q, q < 512 → K (10 + q) = .int .u8 (c q)) (hc : isBy 512 c) :
    FnS Tryz.prog 124 [.arr 522 K, i64 ii, i64 jj, i64 kk, i64 ll] H n (fun r H' _ => r = .tup [u8 (cosum1 p c i j k l a), u8 (cosum2 p c i j k l a)] ∧ H' = H) := by
  obtain ⟨hi, rfl⟩ := hi
  obtain ⟨hj, rfl⟩ := hj
  obtain ⟨hk, rfl⟩ := hk
  obtain ⟨hl, rfl⟩ := hl
  refine FnS.of_body Tryz.func124 tr124 (by simp) (fun hf => ?_)
  dsimp only [argEnv]
  unfold ir124
  (refine zG ?_)
  refine CS.iter a (fun x => [(14, i64 x), (12, i64 (sm (fun a => c (64 * i + 8 * a + l) * c (64 * a + 8 * j + k)) x)), (13, i64 (sm (fun a => c (64 * i + 8 * j + a) * c (64 * a + 8 * k + l)) x)), (5, ptr n 0), (1, i64 i), (2, i64 j), (3, i64 k), (4, i64 l)])
    (fun _ => (n, ⟨522, K, 131⟩) :: H) (fun _ => True) (by (repeat first | exact trivial | refine And.intro rfl ?_)) (by exact zD) trivial ?_
  intro x n3 hx hn _
  have hs1 := sm_b (f := fun a => c (64 * i + 8 * a + l) * c (64 * a + 8 * j + k)) (B := 65025) (n := x) (fun q hq => by
    have h1 := hc (64 * i + 8 * q + l) (by omega)
    have h2 := hc (64 * q + 8 * j + k) (by omega)
    exact mulB h1.1 h1.2 h2.1 h2.2)
  have hs2 := sm_b (f := fun a => c (64 * i + 8 * j + a) * c (64 * a + 8 * k + l)) (B := 65025) (n := x) (fun q hq => by
    have h1 := hc (64 * i + 8 * j + q) (by omega)
    have h2 := hc (64 * q + 8 * k + l) (by omega)
    exact mulB h1.1 h1.2 h2.1 h2.2)
  (refine zG ?_)
  refine zI ?_ ?_<;>intro h2
  · have g1 := hc (64 * i + 8 * x + l) (by omega)
    have g2 := hc (64 * x + 8 * j + k) (by omega)
    have g3 := mulB g1.1 g1.2 g2.1 g2.2
    have g4 := hc (64 * i + 8 * j + x) (by omega)
    have g5 := hc (64 * x + 8 * k + l) (by omega)
    have g6 := mulB g4.1 g4.2 g5.1 g5.2
    (repeat first|refine zG ?_|(refine LS.nilO ?_;intro nq hnq hltq;try refine zU ?_)|(refine MS.new ?_;intro bq hbq hbqf;try refine zU ?_)|(refine MS.nil ?_;intro nq hnq hltq;have hlq:=hltq _ _ (Hp.get_eq _ _ _);clear hltq;try refine zU ?_)|(refine LS.nilQ ?_;try with_reducible intro nq hnq;try refine zU ?_))
    exact ⟨by omega, by (repeat first | exact trivial | refine And.intro rfl ?_), Drops.refl _ _, trivial⟩
  · have : x = a := by omega
    subst this
    (refine zG ?_)
    refine LS.callQ (u8 (cosum1 p c i j k l x)) rfl (fun n' hn' => spec_l01Mod p _ _ _ hp.1 hp.2 (by omega)) ?_
    (repeat first|refine zG ?_|(refine LS.nilO ?_;intro nq hnq hltq;try refine zU ?_)|(refine MS.new ?_;intro bq hbq hbqf;try refine zU ?_)|(refine MS.nil ?_;intro nq hnq hltq;have hlq:=hltq _ _ (Hp.get_eq _ _ _);clear hltq;try refine zU ?_)|(refine LS.nilQ ?_;try with_reducible intro nq hnq;try refine zU ?_))
    refine RS.call rfl ((spec_l01Mod p _ _ _ hp.1 hp.2 (by omega)).mono ?_)
    rintro r H n7 hn7 ⟨rfl, rfl⟩
    (refine zG ?_)
    exact ⟨_, H, rfl, by exact zD, rfl, rfl⟩
end Go.Proofs.YtmkegkpabifpfaaGreat
