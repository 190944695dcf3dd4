/- Contracts of the program's functions. -/
import Derived.Test.YtideblodkkgodaaGreatJam
import Derived.Test.YtideblodkkgodaaGreatJal
import Derived.Test.YtideblodkkgodaaGreatJan
set_option linter.unusedSectionVars false
set_option linter.unusedVariables false
set_option linter.unusedSimpArgs false

namespace Go.Proofs.YtideblodkkgodaaGreat

open Go.V

variable [BW]

set_option linter.unusedSimpArgs false

set_option linter.unusedVariables false

set_option maxHeartbeats 4000000

/-- spec.l01In -/
def ir131 : Cd := (.seq (.reg [⟨some 6,none,.mov (.c (.bool false))⟩]) (.seq (.reg [⟨some 7,none,.mov (.t 0)⟩,⟨some 8,none,.mov (.t 1)⟩,⟨some 9,none,.bin .geq (.t 7) (.t 8)⟩,⟨some 10,none,.mov (.t 9)⟩,⟨some 11,(some (10,true)),.mov (.t 0)⟩,⟨some 12,(some (10,true)),.mov (.t 2)⟩,⟨some 13,(some (10,true)),.bin .leq (.t 11) (.t 12)⟩,⟨some 14,none,.pick (.t 10) (.t 13) (.c (.bool false))⟩,⟨some 6,none,.mov (.t 14)⟩]) .ret))

set_option maxRecDepth 100000 in
theorem tr131 : trFn Tryz.prog Tryz.f131 = some (15, ir131, [.tmp 6]) := by kernel_rfl

theorem spec_l01In (x a b : Int) (H : Hp) (n : Nat) :
    FnS Tryz.prog 131 [i64 x, i64 a, i64 b] H n (fun v H' _ => v = bl (decide (a ≤ x ∧ x ≤ b)) ∧ H' = H) := by
  refine FnS.of_body Tryz.func131 tr131 (by simp) (fun hf => ?_)
  dsimp only [argEnv]
  unfold ir131
  (refine zG ?_)
  refine RS.sp (t := 10) rfl (fun h => ?_) (fun h => ?_) <;> (try simp only [tb_eq, tb_eqF, decide_eq_true_eq, decide_eq_false_iff_not, beq_iff_eq, bne_iff_ne, ne_eq, Decidable.not_not, beq_eq_false_iff_ne, bne_eq_false_iff_eq, Bool.not_eq_true', Bool.not_eq_false', Bool.not_eq_eq_eq_not, Bool.not_true, Bool.not_false] at h)
  all_goals
    (refine zG ?_)
    exact ⟨_, H, rfl, by exact zD, by simp [h], rfl⟩

/-- spec.l01Inverse -/
def ir45 : Cd := (.seq (.reg [⟨some 4,none,.mov (.c (.int .u8 0))⟩]) (.seq (.seq (.reg [⟨some 5,none,.mov (.c (.int .i64 1))⟩]) (.block 0 (.loop (.seq (.seq (.reg [⟨some 6,none,.mov (.t 5)⟩,⟨some 7,none,.mov (.t 0)⟩,⟨some 8,none,.bin .lss (.t 6) (.t 7)⟩]) (.cond (.t 8) .skip (.exit 0))) (.seq (.block 1 (.seq (.reg [⟨some 11,none,.mov (.t 5)⟩,⟨some 12,none,.mov (.t 1)⟩,⟨some 13,none,.cv .i64 (.t 12)⟩,⟨some 14,none,.bin .mul (.t 11) (.t 13)⟩,⟨some 15,none,.mov (.t 0)⟩,⟨some 16,none,.bin .rem (.t 14) (.t 15)⟩,⟨some 17,none,.bin .eql (.t 16) (.c (.int .i64 1))⟩]) (.cond (.t 17) (.seq (.reg [⟨some 18,none,.mov (.t 5)⟩,⟨some 19,none,.cv .u8 (.t 18)⟩,⟨some 4,none,.mov (.t 19)⟩]) .ret) .skip))) (.reg [⟨some 9,none,.mov (.t 5)⟩,⟨some 10,none,.bin .add (.t 9) (.c (.int .i64 1))⟩,⟨some 5,none,.mov (.t 10)⟩])))))) (.seq (.reg [⟨some 4,none,.mov (.c (.int .u8 0))⟩]) .ret)))

set_option maxRecDepth 100000 in
theorem tr45 : trFn Tryz.prog Tryz.f45 = some (20, ir45, [.tmp 4]) := by kernel_rfl

theorem spec_l01Inverse (p x : Int) (H : Hp) (n : Nat) (hp : isP p = true) (hx : 0 ≤ x ∧ x ≤ 255) (hx0 : x % p ≠ 0) :
    FnS Tryz.prog 45 [i64 p, u8 x] H n (fun v H' _ => v = u8 (inv p x) ∧ H' = H) := by
  have hb := isP_le hp
  have hs := inv_spec hp hx0
  refine FnS.of_body Tryz.func45 tr45 (by simp) (fun hf => ?_)
  dsimp only [argEnv]
  unfold ir45
  (refine zG ?_)
  refine CS.iter 31 (fun i => [(5, i64 (i + 1 : Nat)), (0, i64 p), (1, u8 x)]) (fun _ => H) (fun i => ((i + 1 : Nat) : Int) ≤ p ∧ ∀ k : Nat, 1 ≤ k → k < i + 1 → (k : Int) * x % p ≠ 1) (by (repeat first | exact trivial | refine And.intro rfl ?_)) (Drops.refl _ _) ⟨by omega, fun k h1 h2 => by omega⟩ ?_
  intro i n1 hi hn ⟨hJ1, hJ⟩
  have hm := mulB (a := ((i + 1 : Nat) : Int)) (b := x) (A := 31) (B := 255) (by omega) (by omega) (by omega) (by omega)
  (refine zG ?_)
  refine zI ?_ ?_<;>intro h1
  · (refine zG ?_)
    refine zI ?_ ?_<;>intro h2
    · (refine zG ?_)
      exact ⟨u8 (inv p x), H, by rw [inv_eq hp (by omega) (by omega) h2], by exact zD, rfl, rfl⟩
    · (refine zG ?_)
      refine ⟨by omega, by (repeat first | exact trivial | refine And.intro rfl ?_), by exact zD, by omega, fun k h3 h4 => ?_⟩
      by_cases e : k < i + 1
      · exact hJ k h3 e
      · have : k = i + 1 := by omega
        subst this; exact h2
  · exfalso
    obtain ⟨q, hq⟩ : ∃ q : Nat, inv p x = q := ⟨(inv p x).toNat, by omega⟩
    exact hJ q (by omega) (by omega) (by rw [← hq]; exact hs.2.2)

/-- spec.l01Vector -/
def ir36 : Cd := (.seq (.reg [⟨some 5,none,.box 32 (.t 2)⟩,⟨some 6,none,.mov (.c (.bool false))⟩]) (.seq (.seq (.reg [⟨some 7,none,.mov (.c (.int .i64 0))⟩]) (.block 0 (.loop (.seq (.seq (.reg [⟨some 8,none,.mov (.t 7)⟩,⟨some 9,none,.bin .lss (.t 8) (.c (.int .i64 8))⟩]) (.cond (.t 9) .skip (.exit 0))) (.seq (.block 1 (.seq (.reg [⟨some 12,none,.mov (.t 7)⟩,⟨some 13,none,.ia 8 1 (.t 5) (.t 12)⟩,⟨some 14,none,.ld none (.t 13)⟩,⟨some 15,none,.cv .i64 (.t 14)⟩,⟨some 16,none,.mov (.t 0)⟩,⟨some 17,none,.bin .geq (.t 15) (.t 16)⟩,⟨some 18,none,.mov (.t 17)⟩,⟨some 19,(some (18,false)),.mov (.t 7)⟩,⟨some 20,(some (18,false)),.mov (.t 1)⟩,⟨some 21,(some (18,false)),.bin .geq (.t 19) (.t 20)⟩,⟨some 22,(some (18,false)),.mov (.t 21)⟩,⟨some 23,(some (22,true)),.mov (.t 7)⟩,⟨some 24,(some (22,true)),.ia 8 1 (.t 5) (.t 23)⟩,⟨some 25,(some (22,true)),.ld none (.t 24)⟩,⟨some 26,(some (22,true)),.bin .neq (.t 25) (.c (.int .u8 0))⟩,⟨some 27,(some (18,false)),.pick (.t 22) (.t 26) (.c (.bool false))⟩,⟨some 28,none,.pick (.t 18) (.c (.bool true)) (.t 27)⟩]) (.cond (.t 28) (.seq (.reg [⟨some 6,none,.mov (.c (.bool false))⟩]) .ret) .skip))) (.reg [⟨some 10,none,.mov (.t 7)⟩,⟨some 11,none,.bin .add (.t 10) (.c (.int .i64 1))⟩,⟨some 7,none,.mov (.t 11)⟩])))))) (.seq (.reg [⟨some 6,none,.mov (.c (.bool true))⟩]) .ret)))

set_option maxRecDepth 100000 in
theorem tr36 : trFn Tryz.prog Tryz.f36 = some (29, ir36, [.tmp 6]) := by kernel_rfl

theorem spec_l01Vector (p n' : Int) (v : Nat → Int) (H : Hp) (n : Nat) (hv : isBy 8 v) :
    FnS Tryz.prog 36 [i64 p, i64 n', .arr 8 (bys v)] H n (fun r H' _ => r = bl (tb (isVec p n' v)) ∧ H' = H) := by
  refine FnS.of_body Tryz.func36 tr36 (by simp) (fun hf => ?_)
  dsimp only [argEnv]
  unfold ir36
  (refine zG ?_)
  refine CS.iter 8 (fun i => [(7, i64 i), (5, ptr n 0), (0, i64 p), (1, i64 n')]) (fun _ => (n, ⟨8, bys v, 32⟩) :: H) (fun i => ∀ j : Nat, j < i → v j < p ∧ (n' ≤ j → v j = 0)) (by (repeat first | exact trivial | refine And.intro rfl ?_)) (Drops.refl _ _) (fun j hj => by omega) ?_
  intro i n4 hi hn4 hJ
  (refine zG ?_)
  refine zI ?_ ?_<;>intro h3
  · have hvi := hv i (by omega)
    (refine zG ?_)
    refine RS.sp (t := 18) rfl (fun h4 => ?_) (fun h4 => ?_) <;> (try simp only [tb_eq, tb_eqF, decide_eq_true_eq, decide_eq_false_iff_not, beq_iff_eq, bne_iff_ne, ne_eq, Decidable.not_not, beq_eq_false_iff_ne, bne_eq_false_iff_eq, Bool.not_eq_true', Bool.not_eq_false', Bool.not_eq_eq_eq_not, Bool.not_true, Bool.not_false] at h4)
    · (refine zG ?_)
      exact ⟨_, H, rfl, by exact zD, by rw [tb_false (fun h => by have := (h i (by omega)).1; omega)], rfl⟩
    · (refine zG ?_)
      refine RS.sp (t := 22) rfl (fun h5 => ?_) (fun h5 => ?_) <;> (try simp only [tb_eq, tb_eqF, decide_eq_true_eq, decide_eq_false_iff_not, beq_iff_eq, bne_iff_ne, ne_eq, Decidable.not_not, beq_eq_false_iff_ne, bne_eq_false_iff_eq, Bool.not_eq_true', Bool.not_eq_false', Bool.not_eq_eq_eq_not, Bool.not_true, Bool.not_false] at h5)
      · (refine zG ?_)
        refine zI ?_ ?_<;>intro h6
        · (refine zG ?_)
          exact ⟨_, H, rfl, by exact zD, by rw [tb_false (fun h => h6 ((h i (by omega)).2 (by omega)))], rfl⟩
        · (refine zG ?_)
          refine ⟨by omega, by (repeat first | exact trivial | refine And.intro rfl ?_), by exact zD, fun j hj => ?_⟩
          by_cases e : j < i
          · exact hJ j e
          · have : j = i := by omega
            subst this; exact ⟨by omega, fun _ => h6⟩
      · (refine zG ?_)
        refine ⟨by omega, by (repeat first | exact trivial | refine And.intro rfl ?_), by exact zD, fun j hj => ?_⟩
        by_cases e : j < i
        · exact hJ j e
        · have : j = i := by omega
          subst this; exact ⟨by omega, fun h => by omega⟩
  · (refine zG ?_)
    exact ⟨_, H, rfl, by exact zD, by rw [tb_true (show isVec p n' v from fun j hj => hJ j (by omega))], rfl⟩

/-- spec.l01Basis -/
def ir21 : Cd := (.seq (.reg [⟨some 2,none,.new 32 [(8,(.int .u8 0))]⟩]) (.seq (.reg [⟨some 4,none,.build 8 [(8,(.int .u8 0))] []⟩,⟨some 3,none,.new 32 [(8,(.int .u8 0))]⟩,⟨none,none,.st 8 (.t 3) (.t 4)⟩]) (.seq (.reg [⟨some 5,none,.mov (.t 0)⟩,⟨some 6,none,.ia 8 1 (.t 3) (.t 5)⟩,⟨none,none,.st 1 (.t 6) (.c (.int .u8 1))⟩]) (.seq (.reg [⟨some 7,none,.ld (some 8) (.t 3)⟩,⟨none,none,.st 8 (.t 2) (.t 7)⟩]) .ret))))

set_option maxRecDepth 100000 in
theorem tr21 : trFn Tryz.prog Tryz.f21 = some (8, ir21, [.cell (some 8) 2]) := by kernel_rfl

theorem spec_l01Basis (i : Nat) (H : Hp) (n : Nat) (hi : i < 8) :
    FnS Tryz.prog 21 [i64 i] H n (fun r H' _ => r = .arr 8 (bys (bas i)) ∧ H' = H) := by
  refine FnS.of_body Tryz.func21 tr21 (by simp) (fun hf => ?_)
  dsimp only [argEnv]
  unfold ir21
  (refine zG ?_)
  exact ⟨.arr 8 (bys (bas i)), H, conc_arr (fun q hq => by simp only [Nat.zero_add, put1, bys, bas]; split <;> rfl), by exact zD, rfl, rfl⟩

/-- (*impl.Hopf).algebra -/
def ir81 : Cd := (.seq (.reg [⟨some 2,none,.mov (.c .nil)⟩]) (.seq (.drw true [17] [⟨some 3,none,.mov (.t 0)⟩,⟨some 4,none,.ck (.t 3)⟩,⟨some 5,none,.fa 0 (.t 4)⟩,⟨some 6,none,.ld none (.t 5)⟩,⟨some 7,none,.mov (.t 0)⟩,⟨some 8,none,.ck (.t 7)⟩,⟨some 9,none,.fa 1 (.t 8)⟩,⟨some 10,none,.ld none (.t 9)⟩,⟨some 11,none,.mov (.t 0)⟩,⟨some 12,none,.ck (.t 11)⟩,⟨some 13,none,.fa 2 (.t 12)⟩,⟨some 14,none,.ld (some 8) (.t 13)⟩,⟨some 15,none,.mov (.t 0)⟩,⟨some 16,none,.ck (.t 15)⟩,⟨some 17,none,.fa 10 (.t 16)⟩,⟨some 18,none,.ld (some 512) (.t 17)⟩,⟨some 19,none,.build 522 [(2,(.int .i64 0)),(520,(.int .u8 0))] [(0,1,(.t 6)),(1,1,(.t 10)),(2,8,(.t 14)),(10,512,(.t 18))]⟩,⟨some 20,none,.box 52 (.t 19)⟩,⟨some 2,none,.mov (.t 20)⟩]) .ret))

set_option maxRecDepth 100000 in
theorem tr81 : trFn Tryz.prog Tryz.f81 = some (21, ir81, [.tmp 2]) := by kernel_rfl

theorem Hopf_algebra (h : HT) (b : Nat) (K : Blk) (H : Hp) (n : Nat) (hb : H.get b = some K) (hsz : K.size = 1106) (hK : h.At K.c) :
    FnS Tryz.prog 81 [ptr b 0] H n (newAlg 52 h.p h.n h.u h.m n H) := by
  obtain ⟨k0, k1, k2, k3, k4, k5, k6⟩ := hK
  refine FnS.of_body Tryz.func81 tr81 (by simp) (fun hf => ?_)
  dsimp only [argEnv]
  unfold ir81
  have hbn := getlt hf hb
  (repeat first|refine zG ?_|(refine LS.nilO ?_;intro nq hnq hltq;try refine zU ?_)|(refine MS.new ?_;intro bq hbq hbqf;try refine zU ?_)|(refine MS.nil ?_;intro nq hnq hltq;have hlq:=hltq _ _ (Hp.get_eq _ _ _);clear hltq;try refine zU ?_)|(refine LS.nilQ ?_;try with_reducible intro nq hnq;try refine zU ?_))
  refine ⟨ptr nq 0, _, rfl, Drops.refl _ _, nq, _, rfl, hnq, by omega, rfl, ?_, ?_, fun q hq => ?_, fun q hq => ?_⟩
  · simp [splice, put1]
  · simp [splice, put1]
  · simp only [splice]
    rw [if_neg (by omega), if_pos (by omega), Nat.add_sub_cancel_left]
    rfl
  · simp only [splice]
    rw [if_pos (by omega), Nat.add_sub_cancel_left]
    rfl

/-- (*impl.Hopf).field -/
def ir28 : Cd := (.seq (.reg [⟨some 2,none,.new 62 [(2,(.int .i64 0))]⟩]) (.seq (.drw true [9] [⟨some 3,none,.mov (.t 0)⟩,⟨some 4,none,.ck (.t 3)⟩,⟨some 5,none,.fa 0 (.t 4)⟩,⟨some 6,none,.ld none (.t 5)⟩,⟨some 7,none,.mov (.t 0)⟩,⟨some 8,none,.ck (.t 7)⟩,⟨some 9,none,.fa 1 (.t 8)⟩,⟨some 10,none,.ld none (.t 9)⟩,⟨some 11,none,.build 2 [(2,(.int .i64 0))] [(0,1,(.t 6)),(1,1,(.t 10))]⟩,⟨none,none,.st 2 (.t 2) (.t 11)⟩]) .ret))

set_option maxRecDepth 100000 in
theorem tr28 : trFn Tryz.prog Tryz.f28 = some (12, ir28, [.cell (some 2) 2]) := by kernel_rfl

theorem Hopf_field (p n' : Int) (b : Nat) (K : Blk) (H : Hp) (n : Nat) (hb : H.get b = some K) (hsz : K.size = 1106) (h0 : K.c 0 = .int .i64 p) (h1 : K.c 1 = .int .i64 n')
    (hr : -9223372036854775808 ≤ p ∧ p ≤ 9223372036854775807 ∧ -9223372036854775808 ≤ n' ∧ n' ≤ 9223372036854775807) :
    FnS Tryz.prog 28 [ptr b 0] H n (fun r H' _ => r = fld p n' ∧ H' = H) := by
  refine FnS.of_body Tryz.func28 tr28 (by simp) (fun hf => ?_)
  dsimp only [argEnv]
  unfold ir28
  have hbn := getlt hf hb
  (repeat first|refine zG ?_|(refine LS.nilO ?_;intro nq hnq hltq;try refine zU ?_)|(refine MS.new ?_;intro bq hbq hbqf;try refine zU ?_)|(refine MS.nil ?_;intro nq hnq hltq;have hlq:=hltq _ _ (Hp.get_eq _ _ _);clear hltq;try refine zU ?_)|(refine LS.nilQ ?_;try with_reducible intro nq hnq;try refine zU ?_))
  exact ⟨fld p n', _, conc_arr (fldC_of rfl rfl), by exact zD, rfl, rfl⟩

/-- laws.toVector -/
def ir22 : Cd := (.seq (.reg [⟨some 1,none,.box 22 (.t 0)⟩,⟨some 2,none,.new 32 [(8,(.int .u8 0))]⟩]) (.seq (.reg [⟨some 3,none,.new 32 [(8,(.int .u8 0))]⟩]) (.seq (.seq (.reg [⟨some 4,none,.mov (.c (.int .i64 0))⟩]) (.block 0 (.loop (.seq (.seq (.reg [⟨some 5,none,.mov (.t 4)⟩,⟨some 6,none,.bin .lss (.t 5) (.c (.int .i64 8))⟩]) (.cond (.t 6) .skip (.exit 0))) (.seq (.block 1 (.reg [⟨some 9,none,.mov (.t 4)⟩,⟨some 10,none,.mov (.t 4)⟩,⟨some 11,none,.ia 8 1 (.t 1) (.t 10)⟩,⟨some 12,none,.ld none (.t 11)⟩,⟨some 13,none,.ia 8 1 (.t 3) (.t 9)⟩,⟨none,none,.st 1 (.t 13) (.t 12)⟩])) (.reg [⟨some 7,none,.mov (.t 4)⟩,⟨some 8,none,.bin .add (.t 7) (.c (.int .i64 1))⟩,⟨some 4,none,.mov (.t 8)⟩])))))) (.seq (.reg [⟨some 14,none,.ld (some 8) (.t 3)⟩,⟨none,none,.st 8 (.t 2) (.t 14)⟩]) .ret))))

set_option maxRecDepth 100000 in
theorem tr22 : trFn Tryz.prog Tryz.f22 = some (15, ir22, [.cell (some 8) 2]) := by kernel_rfl

theorem laws_toVector (v : Nat → Int) (H : Hp) (n : Nat) :
    FnS Tryz.prog 22 [.arr 8 (bys v)] H n (fun r H' _ => r = .arr 8 (bys v) ∧ H' = H) := by
  refine FnS.of_body Tryz.func22 tr22 (by simp) (fun hf => ?_)
  dsimp only [argEnv]
  unfold ir22
  (refine zG ?_)
  refine CS.iter 8 (fun i => [(4, i64 i), (1, ptr n 0), (2, ptr (n + 1) 0), (3, ptr (n + 2) 0)])
    (fun i => (n + 2, ⟨8, bys (cellsTo v i), 32⟩) :: (n + 1, ⟨8, bys (fun _ => 0), 32⟩) :: (n, ⟨8, bys v, 22⟩) :: H) (fun _ => True) (by (repeat first | exact trivial | refine And.intro rfl ?_))
    (Drops.keepc rfl rfl (fun _ _ => by rw [cellsTo_zero]; rfl) (Drops.keepc rfl rfl (fun _ _ => rfl) (Drops.refl _ _))) trivial ?_
  intro i n1 hi hn _
  have hk : ∀ q, q < 8 → (bys v) q = .int .u8 (v q) := fun q hq => rfl
  (refine zG ?_)
  refine zI ?_ ?_<;>intro h1
  · (refine zG ?_)
    exact ⟨by omega, by (repeat first | exact trivial | refine And.intro rfl ?_), Drops.keepc rfl rfl (fun q hq => cellsTo_step v i q) (Drops.refl _ _), trivial⟩
  · have : i = 8 := by omega
    subst this
    (refine zG ?_)
    exact ⟨.arr 8 (bys v), H, conc_arr (fun q hq => by simp only [Nat.zero_add, bys, cellsTo]; rw [if_pos hq]), by exact zD, rfl, rfl⟩

/-- laws.eqVector -/
def ir34 : Cd := (.seq (.reg [⟨some 2,none,.box 32 (.t 0)⟩,⟨some 3,none,.box 32 (.t 1)⟩,⟨some 4,none,.mov (.c (.bool false))⟩]) (.seq (.seq (.reg [⟨some 5,none,.mov (.c (.int .i64 0))⟩]) (.block 0 (.loop (.seq (.seq (.reg [⟨some 6,none,.mov (.t 5)⟩,⟨some 7,none,.bin .lss (.t 6) (.c (.int .i64 8))⟩]) (.cond (.t 7) .skip (.exit 0))) (.seq (.block 1 (.seq (.drw true [] [⟨some 10,none,.mov (.t 5)⟩,⟨some 11,none,.ia 8 1 (.t 2) (.t 10)⟩,⟨some 12,none,.ld none (.t 11)⟩,⟨some 13,none,.mov (.t 5)⟩,⟨some 14,none,.ia 8 1 (.t 3) (.t 13)⟩,⟨some 15,none,.ld none (.t 14)⟩,⟨some 16,none,.bin .neq (.t 12) (.t 15)⟩]) (.cond (.t 16) (.seq (.reg [⟨some 4,none,.mov (.c (.bool false))⟩]) .ret) .skip))) (.reg [⟨some 8,none,.mov (.t 5)⟩,⟨some 9,none,.bin .add (.t 8) (.c (.int .i64 1))⟩,⟨some 5,none,.mov (.t 9)⟩])))))) (.seq (.reg [⟨some 4,none,.mov (.c (.bool true))⟩]) .ret)))

set_option maxRecDepth 100000 in
theorem tr34 : trFn Tryz.prog Tryz.f34 = some (17, ir34, [.tmp 4]) := by kernel_rfl

theorem laws_eqVector (f g : Nat → Int) (H : Hp) (n : Nat) :
    FnS Tryz.prog 34 [.arr 8 (bys f), .arr 8 (bys g)] H n (fun r H' _ => r = bl (tb (∀ q, q < 8 → f q = g q)) ∧ H' = H) := by
  refine FnS.of_body Tryz.func34 tr34 (by simp) (fun hf => ?_)
  dsimp only [argEnv]
  unfold ir34
  (refine zG ?_)
  refine CS.iter 8 (fun i => [(5, i64 i), (2, ptr n 0), (3, ptr (n + 1) 0)]) (fun _ => (n + 1, ⟨8, bys g, 32⟩) :: (n, ⟨8, bys f, 32⟩) :: H) (fun i => ∀ q, q < i → f q = g q) (by (repeat first | exact trivial | refine And.intro rfl ?_)) (by exact zD) (fun _ h => by omega) ?_
  intro i n1 hi hn hJ
  (refine zG ?_)
  refine zI ?_ ?_<;>intro h1
  · (repeat first|refine zG ?_|(refine LS.nilO ?_;intro nq hnq hltq;try refine zU ?_)|(refine MS.new ?_;intro bq hbq hbqf;try refine zU ?_)|(refine MS.nil ?_;intro nq hnq hltq;have hlq:=hltq _ _ (Hp.get_eq _ _ _);clear hltq;try refine zU ?_)|(refine LS.nilQ ?_;try with_reducible intro nq hnq;try refine zU ?_))
    refine zI ?_ ?_<;>intro h2
    · (refine zG ?_)
      exact ⟨_, H, rfl, by exact zD, by rw [tb_false (fun q => h2 (q i (by omega)))], rfl⟩
    · (refine zG ?_)
      refine ⟨by omega, by (repeat first | exact trivial | refine And.intro rfl ?_), by exact zD, fun q hq => ?_⟩
      by_cases e : q = i
      · subst e; exact h2
      · exact hJ q (by omega)
  · have : i = 8 := by omega
    subst this
    (refine zG ?_)
    exact ⟨_, H, rfl, by exact zD, by rw [tb_true hJ], rfl⟩

end Go.Proofs.YtideblodkkgodaaGreat
