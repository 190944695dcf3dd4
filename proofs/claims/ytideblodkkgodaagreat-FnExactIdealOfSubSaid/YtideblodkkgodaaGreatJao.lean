/- Contracts of the program's functions. -/
import Derived.Test.YtideblodkkgodaaGreatJam
import Derived.Test.YtideblodkkgodaaGreatJal
import Derived.Test.YtideblodkkgodaaGreatJan
set_option linter.unusedSectionVars false
set_option linter.unusedVariables false
set_option linter.unusedSimpArgs false

namespace Go.Proofs.YtideblodkkgodaaGreat

open Go.V

variable [BW]

set_option linter.unusedSimpArgs false

set_option linter.unusedVariables false

set_option maxHeartbeats 4000000

/-- (impl.field).mod -/
def ir54 : Cd := (.seq (.reg [⟨some 2,none,.box 62 (.t 0)⟩,⟨some 4,none,.mov (.c (.int .u8 0))⟩]) (.seq (.reg [⟨some 5,none,.mov (.t 1)⟩,⟨some 6,none,.fa 0 (.t 2)⟩,⟨some 7,none,.ld none (.t 6)⟩,⟨some 8,none,.bin .rem (.t 5) (.t 7)⟩,⟨some 1,none,.mov (.t 8)⟩]) (.seq (.seq (.reg [⟨some 9,none,.mov (.t 1)⟩,⟨some 10,none,.bin .lss (.t 9) (.c (.int .i64 0))⟩]) (.cond (.t 10) (.reg [⟨some 11,none,.mov (.t 1)⟩,⟨some 12,none,.fa 0 (.t 2)⟩,⟨some 13,none,.ld none (.t 12)⟩,⟨some 14,none,.bin .add (.t 11) (.t 13)⟩,⟨some 1,none,.mov (.t 14)⟩]) .skip)) (.seq (.reg [⟨some 15,none,.mov (.t 1)⟩,⟨some 16,none,.cv .u8 (.t 15)⟩,⟨some 4,none,.mov (.t 16)⟩]) .ret))))

set_option maxRecDepth 100000 in
theorem tr54 : trFn Tryz.prog Tryz.f54 = some (17, ir54, [.tmp 4]) := by kernel_rfl

theorem field_mod (p n' x : Int) (H : Hp) (n : Nat) (hp : 2 ≤ p) (hp2 : p ≤ 31) (hx : -1000000000 ≤ x ∧ x ≤ 1000000000) :
    FnS Tryz.prog 54 [fld p n', i64 x] H n (fun v H' _ => v = u8 (x % p) ∧ H' = H) := by
  have h1 := Int.emod_nonneg x (show p ≠ 0 by omega)
  have h2 := Int.emod_lt_of_pos x (show (0 : Int) < p by omega)
  refine FnS.of_body Tryz.func54 tr54 (by simp) (fun hf => ?_)
  dsimp only [argEnv]
  unfold ir54
  by_cases h0 : 0 ≤ x
  · (refine zG ?_)
    refine zI ?_ ?_<;>intro h
    · exfalso; omega
    · (refine zG ?_)
      exact ⟨_, H, rfl, by exact zD, rfl, rfl⟩
  · obtain ⟨t1, t2, t3⟩ := tmod_facts x p hp
    have hb : (x % p = 0 ∧ x.tmod p = 0) ∨ (x % p ≠ 0 ∧ x.tmod p = x % p - p) := by
      by_cases hz : x % p = 0
      · exact .inl ⟨hz, t1 hz⟩
      · exact .inr ⟨hz, t3 hz (by omega)⟩
    clear t1 t2 t3
    (refine zG ?_)
    refine RS.remt rfl rfl (by omega) ?_
    (refine zG ?_)
    generalize x.tmod p = t at hb ⊢
    refine zI ?_ ?_<;>intro h
    · have : t + p = x % p := by omega
      (refine zG ?_)
      exact ⟨u8 (x % p), H, by simp only [this], by exact zD, rfl, rfl⟩
    · have : t = x % p := by omega
      subst this
      (refine zG ?_)
      exact ⟨_, H, rfl, by exact zD, rfl, rfl⟩

/-- spec.l01Mod -/
def ir61 : Cd := (.seq (.reg [⟨some 4,none,.mov (.c (.int .u8 0))⟩]) (.seq (.reg [⟨some 5,none,.mov (.t 1)⟩,⟨some 6,none,.mov (.t 0)⟩,⟨some 7,none,.bin .rem (.t 5) (.t 6)⟩,⟨some 8,none,.mov (.t 0)⟩,⟨some 9,none,.bin .add (.t 7) (.t 8)⟩,⟨some 10,none,.mov (.t 0)⟩,⟨some 11,none,.bin .rem (.t 9) (.t 10)⟩,⟨some 12,none,.cv .u8 (.t 11)⟩,⟨some 4,none,.mov (.t 12)⟩]) .ret))

set_option maxRecDepth 100000 in
theorem tr61 : trFn Tryz.prog Tryz.f61 = some (13, ir61, [.tmp 4]) := by kernel_rfl

theorem spec_l01Mod (p x : Int) (H : Hp) (n : Nat) (hp : 2 ≤ p) (hp2 : p ≤ 31) (hx : -1000000000 ≤ x ∧ x ≤ 1000000000) :
    FnS Tryz.prog 61 [i64 p, i64 x] H n (fun v H' _ => v = u8 (x % p) ∧ H' = H) := by
  have h1 := Int.emod_nonneg x (show p ≠ 0 by omega)
  have h2 := Int.emod_lt_of_pos x (show (0 : Int) < p by omega)
  have ht : -p < x.tmod p ∧ x.tmod p < p ∧ (x.tmod p + p) % p = x % p := by
    obtain ⟨t1, t2, t3⟩ := tmod_facts x p hp
    by_cases hz : x % p = 0
    · rw [t1 hz, hz]; exact ⟨by omega, by omega, by simp⟩
    · by_cases h0 : 0 ≤ x
      · rw [t2 hz h0]; exact ⟨by omega, by omega, by simp⟩
      · rw [t3 hz (by omega)]; exact ⟨by omega, by omega, by rw [Int.sub_add_cancel]; simp⟩
  refine FnS.of_body Tryz.func61 tr61 (by simp) (fun hf => ?_)
  dsimp only [argEnv]
  unfold ir61
  (refine zG ?_)
  refine RS.remt rfl rfl (by omega) ?_
  (refine zG ?_)
  exact ⟨u8 (x % p), H, by rw [← ht.2.2], by exact zD, rfl, rfl⟩

/-- (impl.field).inverse -/
def ir125 : Cd := (.seq (.reg [⟨some 2,none,.box 62 (.t 0)⟩,⟨some 4,none,.mov (.c (.int .i64 0))⟩]) (.seq (.seq (.reg [⟨some 5,none,.mov (.c (.int .i64 1))⟩]) (.block 0 (.loop (.seq (.seq (.reg [⟨some 6,none,.mov (.t 5)⟩,⟨some 7,none,.fa 0 (.t 2)⟩,⟨some 8,none,.ld none (.t 7)⟩,⟨some 9,none,.bin .lss (.t 6) (.t 8)⟩]) (.cond (.t 9) .skip (.exit 0))) (.seq (.block 1 (.seq (.reg [⟨some 12,none,.mov (.t 5)⟩,⟨some 13,none,.mov (.t 1)⟩,⟨some 14,none,.cv .i64 (.t 13)⟩,⟨some 15,none,.bin .mul (.t 12) (.t 14)⟩,⟨some 16,none,.fa 0 (.t 2)⟩,⟨some 17,none,.ld none (.t 16)⟩,⟨some 18,none,.bin .rem (.t 15) (.t 17)⟩,⟨some 19,none,.bin .eql (.t 18) (.c (.int .i64 1))⟩]) (.cond (.t 19) (.seq (.reg [⟨some 20,none,.mov (.t 5)⟩,⟨some 4,none,.mov (.t 20)⟩]) .ret) .skip))) (.reg [⟨some 10,none,.mov (.t 5)⟩,⟨some 11,none,.bin .add (.t 10) (.c (.int .i64 1))⟩,⟨some 5,none,.mov (.t 11)⟩])))))) (.seq (.reg [⟨some 21,none,.fa 0 (.t 2)⟩,⟨some 22,none,.ld none (.t 21)⟩,⟨some 23,none,.bin .rem (.c (.int .i64 1)) (.t 22)⟩,⟨some 4,none,.mov (.t 23)⟩]) .ret)))

set_option maxRecDepth 100000 in
theorem tr125 : trFn Tryz.prog Tryz.f125 = some (24, ir125, [.tmp 4]) := by kernel_rfl

theorem field_inverse (p n' x : Int) (H : Hp) (n : Nat) (hp : isP p = true) (hx : 0 ≤ x ∧ x ≤ 255) (hx0 : x % p ≠ 0) :
    FnS Tryz.prog 125 [fld p n', u8 x] H n (fun v H' _ => v = i64 (inv p x) ∧ H' = H) := by
  have hb := isP_le hp
  have hs := inv_spec hp hx0
  refine FnS.of_body Tryz.func125 tr125 (by simp) (fun hf => ?_)
  dsimp only [argEnv]
  unfold ir125
  (refine zG ?_)
  refine CS.iter 31 (fun i => [(5, i64 (i + 1 : Nat)), (1, u8 x), (2, ptr n 0)]) (fun _ => (n, ⟨2, fldC p n', 62⟩) :: H) (fun i => ((i + 1 : Nat) : Int) ≤ p ∧ ∀ k : Nat, 1 ≤ k → k < i + 1 → (k : Int) * x % p ≠ 1) (by (repeat first | exact trivial | refine And.intro rfl ?_)) (Drops.refl _ _) ⟨by omega, fun k h1 h2 => by omega⟩ ?_
  intro i n1 hi hn ⟨hJ1, hJ⟩
  have hm := mulB (a := ((i + 1 : Nat) : Int)) (b := x) (A := 31) (B := 255) (by omega) (by omega) (by omega) (by omega)
  (refine zG ?_)
  refine zI ?_ ?_<;>intro h1
  · (refine zG ?_)
    refine zI ?_ ?_<;>intro h2
    · (refine zG ?_)
      exact ⟨i64 (inv p x), H, by rw [inv_eq hp (by omega) (by omega) h2], by exact zD, rfl, rfl⟩
    · (refine zG ?_)
      refine ⟨by omega, by (repeat first | exact trivial | refine And.intro rfl ?_), by exact zD, by omega, fun k h3 h4 => ?_⟩
      by_cases e : k < i + 1
      · exact hJ k h3 e
      · have : k = i + 1 := by omega
        subst this; exact h2
  · exfalso
    obtain ⟨q, hq⟩ : ∃ q : Nat, inv p x = q := ⟨(inv p x).toNat, by omega⟩
    exact hJ q (by omega) (by omega) (by rw [← hq]; exact hs.2.2)

/-- (*impl.Algebra).field -/
def ir136 : Cd := (.seq (.reg [⟨some 2,none,.new 62 [(2,(.int .i64 0))]⟩]) (.seq (.drw true [9] [⟨some 3,none,.mov (.t 0)⟩,⟨some 4,none,.ck (.t 3)⟩,⟨some 5,none,.fa 0 (.t 4)⟩,⟨some 6,none,.ld none (.t 5)⟩,⟨some 7,none,.mov (.t 0)⟩,⟨some 8,none,.ck (.t 7)⟩,⟨some 9,none,.fa 1 (.t 8)⟩,⟨some 10,none,.ld none (.t 9)⟩,⟨some 11,none,.build 2 [(2,(.int .i64 0))] [(0,1,(.t 6)),(1,1,(.t 10))]⟩,⟨none,none,.st 2 (.t 2) (.t 11)⟩]) .ret))

set_option maxRecDepth 100000 in
theorem tr136 : trFn Tryz.prog Tryz.f136 = some (12, ir136, [.cell (some 2) 2]) := by kernel_rfl

theorem Algebra_field (p n' : Int) (b : Nat) (K : Blk) (H : Hp) (n : Nat) (hb : H.get b = some K) (hsz : K.size = 522) (h0 : K.c 0 = .int .i64 p) (h1 : K.c 1 = .int .i64 n')
    (hr : -9223372036854775808 ≤ p ∧ p ≤ 9223372036854775807 ∧ -9223372036854775808 ≤ n' ∧ n' ≤ 9223372036854775807) :
    FnS Tryz.prog 136 [ptr b 0] H n (fun r H' _ => r = fld p n' ∧ H' = H) := by
  refine FnS.of_body Tryz.func136 tr136 (by simp) (fun hf => ?_)
  dsimp only [argEnv]
  unfold ir136
  have hbn := getlt hf hb
  (repeat first|refine zG ?_|(refine LS.nilO ?_;intro nq hnq hltq;try refine zU ?_)|(refine MS.new ?_;intro bq hbq hbqf;try refine zU ?_)|(refine MS.nil ?_;intro nq hnq hltq;have hlq:=hltq _ _ (Hp.get_eq _ _ _);clear hltq;try refine zU ?_)|(refine LS.nilQ ?_;try with_reducible intro nq hnq;try refine zU ?_))
  exact ⟨fld p n', _, conc_arr (fldC_of rfl rfl), by exact zD, rfl, rfl⟩

/-- (*impl.Hopf).coalgebra -/
def ir83 : Cd := (.seq (.reg [⟨some 2,none,.mov (.c .nil)⟩]) (.seq (.drw true [17] [⟨some 3,none,.mov (.t 0)⟩,⟨some 4,none,.ck (.t 3)⟩,⟨some 5,none,.fa 0 (.t 4)⟩,⟨some 6,none,.ld none (.t 5)⟩,⟨some 7,none,.mov (.t 0)⟩,⟨some 8,none,.ck (.t 7)⟩,⟨some 9,none,.fa 1 (.t 8)⟩,⟨some 10,none,.ld none (.t 9)⟩,⟨some 11,none,.mov (.t 0)⟩,⟨some 12,none,.ck (.t 11)⟩,⟨some 13,none,.fa 522 (.t 12)⟩,⟨some 14,none,.ld (some 8) (.t 13)⟩,⟨some 15,none,.mov (.t 0)⟩,⟨some 16,none,.ck (.t 15)⟩,⟨some 17,none,.fa 530 (.t 16)⟩,⟨some 18,none,.ld (some 512) (.t 17)⟩,⟨some 19,none,.build 522 [(2,(.int .i64 0)),(520,(.int .u8 0))] [(0,1,(.t 6)),(1,1,(.t 10)),(2,8,(.t 14)),(10,512,(.t 18))]⟩,⟨some 20,none,.box 122 (.t 19)⟩,⟨some 2,none,.mov (.t 20)⟩]) .ret))

set_option maxRecDepth 100000 in
theorem tr83 : trFn Tryz.prog Tryz.f83 = some (21, ir83, [.tmp 2]) := by kernel_rfl

theorem Hopf_coalgebra (h : HT) (b : Nat) (K : Blk) (H : Hp) (n : Nat) (hb : H.get b = some K) (hsz : K.size = 1106) (hK : h.At K.c) :
    FnS Tryz.prog 83 [ptr b 0] H n (newAlg 122 h.p h.n h.e h.c n H) := by
  obtain ⟨k0, k1, k2, k3, k4, k5, k6⟩ := hK
  refine FnS.of_body Tryz.func83 tr83 (by simp) (fun hf => ?_)
  dsimp only [argEnv]
  unfold ir83
  have hbn := getlt hf hb
  (repeat first|refine zG ?_|(refine LS.nilO ?_;intro nq hnq hltq;try refine zU ?_)|(refine MS.new ?_;intro bq hbq hbqf;try refine zU ?_)|(refine MS.nil ?_;intro nq hnq hltq;have hlq:=hltq _ _ (Hp.get_eq _ _ _);clear hltq;try refine zU ?_)|(refine LS.nilQ ?_;try with_reducible intro nq hnq;try refine zU ?_))
  refine ⟨ptr nq 0, _, rfl, Drops.refl _ _, nq, _, rfl, hnq, by omega, rfl, ?_, ?_, fun q hq => ?_, fun q hq => ?_⟩
  · simp [splice, put1]
  · simp [splice, put1]
  · simp only [splice]
    rw [if_neg (by omega), if_pos (by omega), Nat.add_sub_cancel_left]
    rfl
  · simp only [splice]
    rw [if_pos (by omega), Nat.add_sub_cancel_left]
    rfl

/-- (impl.field).dot -/
def ir55 : Cd := (.seq (.reg [⟨some 3,none,.box 62 (.t 0)⟩,⟨some 4,none,.box 32 (.t 1)⟩,⟨some 5,none,.box 32 (.t 2)⟩,⟨some 6,none,.mov (.c (.int .i64 0))⟩]) (.seq (.reg [⟨some 7,none,.mov (.c (.int .i64 0))⟩]) (.seq (.seq (.reg [⟨some 10,none,.ld (some 8) (.t 4)⟩,⟨some 11,none,.mov (.c (.int .i64 0))⟩]) (.block 0 (.loop (.seq (.reg [⟨some 12,none,.bin .lss (.t 11) (.c (.int .i64 8))⟩]) (.seq (.cond (.t 12) .skip (.exit 0)) (.seq (.block 1 (.seq (.reg [⟨some 13,none,.mov (.t 11)⟩,⟨some 14,none,.ix 8 1 none (.t 10) (.t 11)⟩,⟨some 8,none,.mov (.t 13)⟩,⟨some 9,none,.mov (.t 14)⟩]) (.reg [⟨some 15,none,.mov (.t 7)⟩,⟨some 16,none,.mov (.t 9)⟩,⟨some 17,none,.cv .i64 (.t 16)⟩,⟨some 18,none,.mov (.t 8)⟩,⟨some 19,none,.ia 8 1 (.t 5) (.t 18)⟩,⟨some 20,none,.ld none (.t 19)⟩,⟨some 21,none,.cv .i64 (.t 20)⟩,⟨some 22,none,.bin .mul (.t 17) (.t 21)⟩,⟨some 23,none,.bin .add (.t 15) (.t 22)⟩,⟨some 7,none,.mov (.t 23)⟩]))) (.reg [⟨some 24,none,.bin .add (.t 11) (.c (.int .i64 1))⟩,⟨some 11,none,.mov (.t 24)⟩]))))))) (.seq (.reg [⟨some 25,none,.mov (.t 7)⟩,⟨some 26,none,.fa 0 (.t 3)⟩,⟨some 27,none,.ld none (.t 26)⟩,⟨some 28,none,.bin .rem (.t 25) (.t 27)⟩,⟨some 6,none,.mov (.t 28)⟩]) .ret))))

set_option maxRecDepth 100000 in
theorem tr55 : trFn Tryz.prog Tryz.f55 = some (29, ir55, [.tmp 6]) := by kernel_rfl

theorem field_dot (p n' : Int) (v w : Nat → Int) (H : Hp) (n : Nat) (hp : 2 ≤ p ∧ p ≤ 31) (hv : isBy 8 v) (hw : isBy 8 w) :
    FnS Tryz.prog 55 [fld p n', .arr 8 (bys v), .arr 8 (bys w)] H n (fun r H' _ => r = i64 (dotk p v w 8) ∧ H' = H) := by
  refine FnS.of_body Tryz.func55 tr55 (by simp) (fun hf => ?_)
  dsimp only [argEnv]
  unfold ir55
  (refine zG ?_)
  refine CS.iter 8 (fun i => [(11, i64 i), (7, i64 (sm (fun i => v i * w i) i)), (10, .arr 8 (bys v)), (5, ptr (n + 2) 0), (3, ptr n 0)])
    (fun i => (n + 2, ⟨8, bys w, 32⟩) :: (n + 1, ⟨8, bys v, 32⟩) :: (n, ⟨2, fldC p n', 62⟩) :: H) (fun _ => True) (by (repeat first | exact trivial | refine And.intro rfl ?_)) (Drops.keepc rfl rfl (fun _ _ => rfl) (Drops.keepc rfl rfl (fun _ _ => rfl) (Drops.refl _ _))) trivial ?_
  intro i n1 hi hn _
  have hs := sm_b (f := fun i => v i * w i) (B := 65025) (n := i) (fun q hq => by
    have h1 := hv q (by omega)
    have h2 := hw q (by omega)
    exact mulB h1.1 h1.2 h2.1 h2.2)
  (refine zG ?_)
  refine zI ?_ ?_<;>intro h1
  · have hvi := hv i (by omega)
    have hwi := hw i (by omega)
    have hvw := mulB hvi.1 hvi.2 hwi.1 hwi.2
    (refine zG ?_)
    exact ⟨by omega, by (repeat first | exact trivial | refine And.intro rfl ?_), Drops.refl _ _, trivial⟩
  · have : i = 8 := by omega
    subst this
    (refine zG ?_)
    exact ⟨i64 (dotk p v w 8), H, rfl, by exact zD, rfl, rfl⟩

/-- impl.pairs -/
def ir73 : Cd := (.seq (.reg [⟨some 7,none,.mov (.c (.int .i64 0))⟩]) (.block 0 (.loop (.seq (.reg [⟨some 8,none,.bin .lss (.t 7) (.c (.int .i64 8))⟩]) (.seq (.cond (.t 8) .skip (.exit 0)) (.seq (.block 1 (.seq (.reg [⟨some 9,none,.mov (.t 7)⟩,⟨some 4,none,.mov (.t 9)⟩]) (.seq (.reg [⟨some 10,none,.mov (.t 0)⟩,⟨some 11,none,.mov (.t 4)⟩,⟨some 12,none,.ck (.t 10)⟩,⟨some 13,none,.ia 8 8 (.t 12) (.t 11)⟩,⟨some 14,none,.ld (some 8) (.t 13)⟩,⟨some 15,none,.mov (.c (.int .i64 0))⟩]) (.block 2 (.loop (.seq (.reg [⟨some 16,none,.bin .lss (.t 15) (.c (.int .i64 8))⟩]) (.seq (.cond (.t 16) .skip (.exit 2)) (.seq (.block 3 (.seq (.reg [⟨some 17,none,.mov (.t 15)⟩,⟨some 18,none,.ix 8 1 none (.t 14) (.t 15)⟩,⟨some 5,none,.mov (.t 17)⟩,⟨some 6,none,.mov (.t 18)⟩]) (.seq (.reg [⟨some 19,none,.mov (.t 6)⟩,⟨some 20,none,.bin .neq (.t 19) (.c (.int .u8 0))⟩]) (.cond (.t 20) (.reg [⟨some 21,none,.mov (.t 1)⟩,⟨some 22,none,.mov (.t 4)⟩,⟨some 23,none,.mov (.t 5)⟩,⟨some 24,none,.mov (.t 6)⟩,⟨some 25,none,.cv .i64 (.t 24)⟩,⟨some 26,none,.callv (.t 21) [(.t 22),(.t 23),(.t 25)]⟩]) .skip)))) (.reg [⟨some 27,none,.bin .add (.t 15) (.c (.int .i64 1))⟩,⟨some 15,none,.mov (.t 27)⟩]))))))))) (.reg [⟨some 28,none,.bin .add (.t 7) (.c (.int .i64 1))⟩,⟨some 7,none,.mov (.t 28)⟩])))))))

set_option maxRecDepth 100000 in
theorem tr73 : trFn Tryz.prog Tryz.f73 = some (29, ir73, []) := by kernel_rfl

theorem impl_pairs (l : Nat → Int) (b o : Nat) (F : FuncId) (post : List SV) (M : Nat → Hp) (H : Hp) (n : Nat) (h0 : M 0 = H)
    (hb : ∀ t, t < 64 → ∃ K, (M t).get b = some K ∧ o + 64 ≤ K.size ∧ ∀ i, i < 64 → K.c (o + i) = .int .u8 (l i)) (hl : isBy 64 l) (hM : ∀ t : Nat, t < 64 → l t = 0 → M (t + 1) = M t)
    (hF : ∀ t j k n' : Nat, t < 64 → t = 8 * j + k → k < 8 → l t ≠ 0 → n ≤ n' → FnS Tryz.prog F ([i64 j, i64 k, i64 (l t)] ++ post.map .s) (M t) n' (fun _ H' _ => H' = M (t + 1))) :
    FnS Tryz.prog 73 [ptr b o, .s (.fn F [] post)] H n (fun _ H' _ => H' = M 64) := by
  subst h0
  refine FnS.of_body Tryz.func73 tr73 (by simp) (fun hf => ?_)
  dsimp only [argEnv]
  unfold ir73
  (refine zG ?_)
  refine CS.iter 8 (fun j => [(7, i64 j), (0, ptr b o), (1, .s (.fn F [] post))]) (fun j => M (8 * j)) (fun _ => True) (by (repeat first | exact trivial | refine And.intro rfl ?_)) (Drops.refl _ _) trivial ?_
  intro j n1 hj hn _
  (refine zG ?_)
  refine zI ?_ ?_<;>intro h2
  · obtain ⟨K, hK1, hK2, hK3⟩ := hb (8 * j) (by omega)
    (refine zG ?_)
    refine CS.iter 8 (fun k => [(15, i64 k), (14, .arr 8 (bys (fun x => l (8 * j + x)))), (4, i64 j), (7, i64 j), (0, ptr b o), (1, .s (.fn F [] post))]) (fun k => M (8 * j + k)) (fun _ => True) (by (repeat first | exact trivial | refine And.intro rfl ?_)) (Drops.refl _ _) trivial ?_
    intro k n2 hk hn2 _
    (refine zG ?_)
    refine zI ?_ ?_<;>intro h3
    · have hlk := hl (8 * j + k) (by omega)
      (refine zG ?_)
      refine CS.condN rfl (fun h4 => ?_) (fun h4 => ?_)
      · (refine zG ?_)
        refine RS.callv (f := F) (pre := []) (post := post) (vs := [i64 j, i64 k, i64 (l (8 * j + k))]) (by exact rfl) (by exact rfl) ?_
        refine FnS.mono (hF (8 * j + k) j k n2 (by omega) rfl (by omega) h4 (by omega)) ?_
        rintro r H n3 hn3 rfl
        (refine zG ?_)
        exact ⟨by omega, by (repeat first | exact trivial | refine And.intro rfl ?_), Drops.refl _ _, trivial⟩
      · (refine zG ?_)
        exact ⟨by omega, by (repeat first | exact trivial | refine And.intro rfl ?_), by rw [show 8 * j + (k + 1) = 8 * j + k + 1 by omega, hM _ (by omega) h4]; exact Drops.refl _ _, trivial⟩
    · have : k = 8 := by omega
      subst this
      (refine zG ?_)
      exact ⟨by omega, by (repeat first | exact trivial | refine And.intro rfl ?_), Drops.refl _ _, trivial⟩
  · have : j = 8 := by omega
    subst this
    (refine zG ?_)
    exact ⟨_, M 64, rfl, by exact zD, rfl⟩

/-- spec.l03Algebra -/
def ir20 : Cd := (.seq (.reg [⟨some 1,none,.box 38 (.t 0)⟩,⟨some 2,none,.new 52 [(2,(.int .i64 0)),(520,(.int .u8 0))]⟩]) (.seq (.reg [⟨some 3,none,.fa 0 (.t 1)⟩,⟨some 4,none,.ld none (.t 3)⟩,⟨some 5,none,.fa 1 (.t 1)⟩,⟨some 6,none,.ld none (.t 5)⟩,⟨some 7,none,.fa 2 (.t 1)⟩,⟨some 8,none,.ld (some 8) (.t 7)⟩,⟨some 9,none,.fa 10 (.t 1)⟩,⟨some 10,none,.ld (some 512) (.t 9)⟩,⟨some 11,none,.build 522 [(2,(.int .i64 0)),(520,(.int .u8 0))] [(0,1,(.t 4)),(1,1,(.t 6)),(2,8,(.t 8)),(10,512,(.t 10))]⟩,⟨none,none,.st 522 (.t 2) (.t 11)⟩]) .ret))

set_option maxRecDepth 100000 in
theorem tr20 : trFn Tryz.prog Tryz.f20 = some (12, ir20, [.cell (some 522) 2]) := by kernel_rfl

theorem spec_l03Algebra (K : Nat → SV) (h : HT) (H : Hp) (n : Nat) (hK : h.At K) :
    FnS Tryz.prog 20 [.arr 1106 K] H n (fun r H' _ => r = .arr 522 K ∧ H' = H) := by
  obtain ⟨k0, k1, k2, k3, k4, k5, k6⟩ := hK
  refine FnS.of_body Tryz.func20 tr20 (by simp) (fun hf => ?_)
  dsimp only [argEnv]
  unfold ir20
  (refine zG ?_)
  refine ⟨.arr 522 K, H, conc_arr (fun q hq => ?_), by exact zD, rfl, rfl⟩
  simp only [Nat.zero_add, splice, put1]
  by_cases e0 : q < 2
  · rw [if_neg (by omega), if_neg (by omega)]
    by_cases e1 : q = 1
    · subst e1; rw [if_pos rfl]; exact k1.symm
    · have : q = 0 := by omega
      subst this; rw [if_neg (by omega), if_pos rfl]; exact k0.symm
  by_cases e1 : q < 10
  · rw [if_neg (by omega), if_pos (by omega)]
    have := k2 (q - 2) (by omega)
    rw [show 2 + (q - 2) = q by omega] at this
    rw [this]; rfl
  · rw [if_pos (by omega)]
    have := k3 (q - 10) (by omega)
    rw [show 10 + (q - 10) = q by omega] at this
    rw [this]; rfl

/-- spec.l01Zero -/
def ir43 : Cd := (.seq (.reg [⟨some 1,none,.box 32 (.t 0)⟩,⟨some 2,none,.mov (.c (.bool false))⟩]) (.seq (.reg [⟨some 3,none,.ld (some 8) (.t 1)⟩,⟨some 4,none,.build 8 [(8,(.int .u8 0))] []⟩,⟨some 5,none,.eqa false 8 (.t 3) (.t 4)⟩,⟨some 2,none,.mov (.t 5)⟩]) .ret))

set_option maxRecDepth 100000 in
theorem tr43 : trFn Tryz.prog Tryz.f43 = some (6, ir43, [.tmp 2]) := by kernel_rfl

theorem spec_l01Zero (v : Nat → Int) (H : Hp) (n : Nat) :
    FnS Tryz.prog 43 [.arr 8 (bys v)] H n (fun r H' _ => r = bl (tb (∀ q, q < 8 → v q = 0)) ∧ H' = H) := by
  refine FnS.of_body Tryz.func43 tr43 (by simp) (fun hf => ?_)
  dsimp only [argEnv]
  unfold ir43
  (refine zG ?_)
  exact ⟨_, H, rfl, by exact zD, rfl, rfl⟩

end Go.Proofs.YtideblodkkgodaaGreat
