/- Contracts of the program's functions. -/
import Derived.Test.YtmkegkpabifpfaaGreatJam
import Derived.Test.YtmkegkpabifpfaaGreatJal
import Derived.Test.YtmkegkpabifpfaaGreatJan
namespace Go.Proofs.YtmkegkpabifpfaaGreat
open Go.V
set_option linter.unusedSimpArgs false
set_option linter.unusedVariables false
set_option maxHeartbeats 4000000
/-- (impl.field).mod -/
def ir71 : Cd := (.seq (.reg [⟨some 2,none,.box 76 (.t 0)⟩,⟨some 4,none,.mov (.c (.int .u8 0))⟩]) (.seq (.reg [⟨some 5,none,.mov (.t 1)⟩,⟨some 6,none,.fa 0 (.t 2)⟩,⟨some 7,none,.ld none (.t 6)⟩,⟨some 8,none,.bin .rem (.t 5) (.t 7)⟩,⟨some 1,none,.mov (.t 8)⟩]) (.seq (.seq (.reg [⟨some 9,none,.mov (.t 1)⟩,⟨some 10,none,.bin .lss (.t 9) (.c (.int .i64 0))⟩]) (.cond (.t 10) (.reg [⟨some 11,none,.mov (.t 1)⟩,⟨some 12,none,.fa 0 (.t 2)⟩,⟨some 13,none,.ld none (.t 12)⟩,⟨some 14,none,.bin .add (.t 11) (.t 13)⟩,⟨some 1,none,.mov (.t 14)⟩]) .skip)) (.seq (.reg [⟨some 15,none,.mov (.t 1)⟩,⟨some 16,none,.cv .u8 (.t 15)⟩,⟨some 4,none,.mov (.t 16)⟩]) .ret))))
set_option maxRecDepth 100000 in
theorem tr71 : trFn Tryz.prog Tryz.f71 = some (17, ir71, [.tmp 4]) := by kernel_rfl
theorem field_mod (p n' x : Int) (H : Hp) (n : Nat) (hp : 2 ≤ p) (hp2 : p ≤ 31) (hx : -1000000000 ≤ x ∧ x ≤ 1000000000) :
    FnS Tryz.prog 71 [fld p n', i64 x] H n (fun v H' _ => v = u8 (x % p) ∧ H' = H) := by
  have h1 := Int.emod_nonneg x (show p ≠ 0 by omega)
  have h2 := Int.emod_lt_of_pos x (show (0 : Int) < p by omega)
  refine FnS.of_body Tryz.func71 tr71 (by simp) (fun hf => ?_)
  dsimp only [argEnv]
  unfold ir71
  by_cases h0 : 0 ≤ x
  · (refine zG ?_)
    refine zI ?_ ?_<;>intro h
    · exfalso; omega
    · (refine zG ?_)
      exact ⟨_, H, rfl, by exact zD, rfl, rfl⟩
  · obtain ⟨t1, t2, t3⟩ := tmod_facts x p hp
    have hb : (x % p = 0 ∧ x.tmod p = 0) ∨ (x % p ≠ 0 ∧ x.tmod p = x % p - p) := by
      by_cases hz : x % p = 0
      · exact .inl ⟨hz, t1 hz⟩
      · exact .inr ⟨hz, t3 hz (by omega)⟩
    clear t1 t2 t3
    (refine zG ?_)
    refine RS.remt rfl rfl (by omega) ?_
    (refine zG ?_)
    generalize x.tmod p = t at hb ⊢
    refine zI ?_ ?_<;>intro h
    · have : t + p = x % p := by omega
      (refine zG ?_)
      exact ⟨u8 (x % p), H, by simp only [this], by exact zD, rfl, rfl⟩
    · have : t = x % p := by omega
      subst this
      (refine zG ?_)
      exact ⟨_, H, rfl, by exact zD, rfl, rfl⟩
/-- spec.l01Mod -/
def ir28 : Cd := (.seq (.reg [⟨some 4,none,.mov (.c (.int .u8 0))⟩]) (.seq (.reg [⟨some 5,none,.mov (.t 1)⟩,⟨some 6,none,.mov (.t 0)⟩,⟨some 7,none,.bin .rem (.t 5) (.t 6)⟩,⟨some 8,none,.mov (.t 0)⟩,⟨some 9,none,.bin .add (.t 7) (.t 8)⟩,⟨some 10,none,.mov (.t 0)⟩,⟨some 11,none,.bin .rem (.t 9) (.t 10)⟩,⟨some 12,none,.cv .u8 (.t 11)⟩,⟨some 4,none,.mov (.t 12)⟩]) .ret))
set_option maxRecDepth 100000 in
theorem tr28 : trFn Tryz.prog Tryz.f28 = some (13, ir28, [.tmp 4]) := by kernel_rfl
theorem spec_l01Mod (p x : Int) (H : Hp) (n : Nat) (hp : 2 ≤ p) (hp2 : p ≤ 31) (hx : -1000000000 ≤ x ∧ x ≤ 1000000000) :
    FnS Tryz.prog 28 [i64 p, i64 x] H n (fun v H' _ => v = u8 (x % p) ∧ H' = H) := by
  have h1 := Int.emod_nonneg x (show p ≠ 0 by omega)
  have h2 := Int.emod_lt_of_pos x (show (0 : Int) < p by omega)
  have ht : -p < x.tmod p ∧ x.tmod p < p ∧ (x.tmod p + p) % p = x % p := by
    obtain ⟨t1, t2, t3⟩ := tmod_facts x p hp
    by_cases hz : x % p = 0
    · rw [t1 hz, hz]; exact ⟨by omega, by omega, by simp⟩
    · by_cases h0 : 0 ≤ x
      · rw [t2 hz h0]; exact ⟨by omega, by omega, by simp⟩
      · rw [t3 hz (by omega)]; exact ⟨by omega, by omega, by rw [Int.sub_add_cancel]; simp⟩
  refine FnS.of_body Tryz.func28 tr28 (by simp) (fun hf => ?_)
  dsimp only [argEnv]
  unfold ir28
  (refine zG ?_)
  refine RS.remt rfl rfl (by omega) ?_
  (refine zG ?_)
  exact ⟨u8 (x % p), H, by rw [← ht.2.2], by exact zD, rfl, rfl⟩
/-- (impl.field).inverse -/
def ir101 : Cd := (.seq (.reg [⟨some 2,none,.box 76 (.t 0)⟩,⟨some 4,none,.mov (.c (.int .i64 0))⟩]) (.seq (.seq (.reg [⟨some 5,none,.mov (.c (.int .i64 1))⟩]) (.block 0 (.loop (.seq (.seq (.reg [⟨some 6,none,.mov (.t 5)⟩,⟨some 7,none,.fa 0 (.t 2)⟩,⟨some 8,none,.ld none (.t 7)⟩,⟨some 9,none,.bin .lss (.t 6) (.t 8)⟩]) (.cond (.t 9) .skip (.exit 0))) (.seq (.block 1 (.seq (.reg [⟨some 12,none,.mov (.t 5)⟩,⟨some 13,none,.mov (.t 1)⟩,⟨some 14,none,.cv .i64 (.t 13)⟩,⟨some 15,none,.bin .mul (.t 12) (.t 14)⟩,⟨some 16,none,.fa 0 (.t 2)⟩,⟨some 17,none,.ld none (.t 16)⟩,⟨some 18,none,.bin .rem (.t 15) (.t 17)⟩,⟨some 19,none,.bin .eql (.t 18) (.c (.int .i64 1))⟩]) (.cond (.t 19) (.seq (.reg [⟨some 20,none,.mov (.t 5)⟩,⟨some 4,none,.mov (.t 20)⟩]) .ret) .skip))) (.reg [⟨some 10,none,.mov (.t 5)⟩,⟨some 11,none,.bin .add (.t 10) (.c (.int .i64 1))⟩,⟨some 5,none,.mov (.t 11)⟩])))))) (.seq (.reg [⟨some 21,none,.fa 0 (.t 2)⟩,⟨some 22,none,.ld none (.t 21)⟩,⟨some 23,none,.bin .rem (.c (.int .i64 1)) (.t 22)⟩,⟨some 4,none,.mov (.t 23)⟩]) .ret)))
set_option maxRecDepth 100000 in
theorem tr101 : trFn Tryz.prog Tryz.f101 = some (24, ir101, [.tmp 4]) := by kernel_rfl
theorem field_inverse (p n' x : Int) (H : Hp) (n : Nat) (hp : isP p = true) (hx : 0 ≤ x ∧ x ≤ 255) (hx0 : x % p ≠ 0) :
    FnS Tryz.prog 101 [fld p n', u8 x] H n (fun v H' _ => v = i64 (inv p x) ∧ H' = H) := by
  have hb := isP_le hp
  have hs := inv_spec hp hx0
  refine FnS.of_body Tryz.func101 tr101 (by simp) (fun hf => ?_)
  dsimp only [argEnv]
  unfold ir101
  (refine zG ?_)
  refine CS.iter 31 (fun i => [(5, i64 (i + 1 : Nat)), (1, u8 x), (2, ptr n 0)]) (fun _ => (n, ⟨2, fldC p n', 76⟩) :: H) (fun i => ((i + 1 : Nat) : Int) ≤ p ∧ ∀ k : Nat, 1 ≤ k → k < i + 1 → (k : Int) * x % p ≠ 1) (by (repeat first | exact trivial | refine And.intro rfl ?_)) (Drops.refl _ _) ⟨by omega, fun k h1 h2 => by omega⟩ ?_
  intro i n1 hi hn ⟨hJ1, hJ⟩
  have hm := mulB (a := ((i + 1 : Nat) : Int)) (b := x) (A := 31) (B := 255) (by omega) (by omega) (by omega) (by omega)
  (refine zG ?_)
  refine zI ?_ ?_<;>intro h1
  · (refine zG ?_)
    refine zI ?_ ?_<;>intro h2
    · (refine zG ?_)
      exact ⟨i64 (inv p x), H, by rw [inv_eq hp (by omega) (by omega) h2], by exact zD, rfl, rfl⟩
    · (refine zG ?_)
      refine ⟨by omega, by (repeat first | exact trivial | refine And.intro rfl ?_), by exact zD, by omega, fun k h3 h4 => ?_⟩
      by_cases e : k < i + 1
      · exact hJ k h3 e
      · have : k = i + 1 := by omega
        subst this; exact h2
  · exfalso
    obtain ⟨q, hq⟩ : ∃ q : Nat, inv p x = q := ⟨(inv p x).toNat, by omega⟩
    exact hJ q (by omega) (by omega) (by rw [← hq]; exact hs.2.2)
/-- (*impl.Hopf).coalgebra -/
def ir108 : Cd := (.seq (.reg [⟨some 2,none,.mov (.c .nil)⟩]) (.seq (.drw true [17] [⟨some 3,none,.mov (.t 0)⟩,⟨some 4,none,.ck (.t 3)⟩,⟨some 5,none,.fa 0 (.t 4)⟩,⟨some 6,none,.ld none (.t 5)⟩,⟨some 7,none,.mov (.t 0)⟩,⟨some 8,none,.ck (.t 7)⟩,⟨some 9,none,.fa 1 (.t 8)⟩,⟨some 10,none,.ld none (.t 9)⟩,⟨some 11,none,.mov (.t 0)⟩,⟨some 12,none,.ck (.t 11)⟩,⟨some 13,none,.fa 522 (.t 12)⟩,⟨some 14,none,.ld (some 8) (.t 13)⟩,⟨some 15,none,.mov (.t 0)⟩,⟨some 16,none,.ck (.t 15)⟩,⟨some 17,none,.fa 530 (.t 16)⟩,⟨some 18,none,.ld (some 512) (.t 17)⟩,⟨some 19,none,.build 522 [(2,(.int .i64 0)),(520,(.int .u8 0))] [(0,1,(.t 6)),(1,1,(.t 10)),(2,8,(.t 14)),(10,512,(.t 18))]⟩,⟨some 20,none,.box 131 (.t 19)⟩,⟨some 2,none,.mov (.t 20)⟩]) .ret))
set_option maxRecDepth 100000 in
theorem tr108 : trFn Tryz.prog Tryz.f108 = some (21, ir108, [.tmp 2]) := by kernel_rfl
theorem Hopf_coalgebra (h : HT) (b : Nat) (K : Blk) (H : Hp) (n : Nat) (hb : H.get b = some K) (hsz : K.size = 1106) (hK : h.At K.c) :
    FnS Tryz.prog 108 [ptr b 0] H n (newAlg 131 h.p h.n h.e h.c n H) := by
  obtain ⟨k0, k1, k2, k3, k4, k5, k6⟩ := hK
  refine FnS.of_body Tryz.func108 tr108 (by simp) (fun hf => ?_)
  dsimp only [argEnv]
  unfold ir108
  have hbn := getlt hf hb
  (repeat first|refine zG ?_|(refine LS.nilO ?_;intro nq hnq hltq;try refine zU ?_)|(refine MS.new ?_;intro bq hbq hbqf;try refine zU ?_)|(refine MS.nil ?_;intro nq hnq hltq;have hlq:=hltq _ _ (Hp.get_eq _ _ _);clear hltq;try refine zU ?_)|(refine LS.nilQ ?_;try with_reducible intro nq hnq;try refine zU ?_))
  refine ⟨ptr nq 0, _, rfl, Drops.refl _ _, nq, _, rfl, hnq, by omega, rfl, ?_, ?_, fun q hq => ?_, fun q hq => ?_⟩
  · simp [splice, put1]
  · simp [splice, put1]
  · simp only [splice]
    rw [if_neg (by omega), if_pos (by omega), Nat.add_sub_cancel_left]
    rfl
  · simp only [splice]
    rw [if_pos (by omega), Nat.add_sub_cancel_left]
    rfl
/-- (impl.field).dot -/
def ir134 : Cd := (.seq (.reg [⟨some 3,none,.box 76 (.t 0)⟩,⟨some 4,none,.box 34 (.t 1)⟩,⟨some 5,none,.box 34 (.t 2)⟩,⟨some 6,none,.mov (.c (.int .i64 0))⟩]) (.seq (.reg [⟨some 7,none,.mov (.c (.int .i64 0))⟩]) (.seq (.seq (.reg [⟨some 10,none,.ld (some 8) (.t 4)⟩,⟨some 11,none,.mov (.c (.int .i64 0))⟩]) (.block 0 (.loop (.seq (.reg [⟨some 12,none,.bin .lss (.t 11) (.c (.int .i64 8))⟩]) (.seq (.cond (.t 12) .skip (.exit 0)) (.seq (.block 1 (.seq (.reg [⟨some 13,none,.mov (.t 11)⟩,⟨some 14,none,.ix 8 1 none (.t 10) (.t 11)⟩,⟨some 8,none,.mov (.t 13)⟩,⟨some 9,none,.mov (.t 14)⟩]) (.reg [⟨some 15,none,.mov (.t 7)⟩,⟨some 16,none,.mov (.t 9)⟩,⟨some 17,none,.cv .i64 (.t 16)⟩,⟨some 18,none,.mov (.t 8)⟩,⟨some 19,none,.ia 8 1 (.t 5) (.t 18)⟩,⟨some 20,none,.ld none (.t 19)⟩,⟨some 21,none,.cv .i64 (.t 20)⟩,⟨some 22,none,.bin .mul (.t 17) (.t 21)⟩,⟨some 23,none,.bin .add (.t 15) (.t 22)⟩,⟨some 7,none,.mov (.t 23)⟩]))) (.reg [⟨some 24,none,.bin .add (.t 11) (.c (.int .i64 1))⟩,⟨some 11,none,.mov (.t 24)⟩]))))))) (.seq (.reg [⟨some 25,none,.mov (.t 7)⟩,⟨some 26,none,.fa 0 (.t 3)⟩,⟨some 27,none,.ld none (.t 26)⟩,⟨some 28,none,.bin .rem (.t 25) (.t 27)⟩,⟨some 6,none,.mov (.t 28)⟩]) .ret))))
set_option maxRecDepth 100000 in
theorem tr134 : trFn Tryz.prog Tryz.f134 = some (29, ir134, [.tmp 6]) := by kernel_rfl
theorem field_dot (p n' : Int) (v w : Nat → Int) (H : Hp) (n : Nat) (hp : 2 ≤ p ∧ p ≤ 31) (hv : isBy 8 v) (hw : isBy 8 w) :
    FnS Tryz.prog 134 [fld p n', .arr 8 (bys v), .arr 8 (bys w)] H n (fun r H' _ => r = i64 (dotk p v w 8) ∧ H' = H) := by
  refine FnS.of_body Tryz.func134 tr134 (by simp) (fun hf => ?_)
  dsimp only [argEnv]
  unfold ir134
  (refine zG ?_)
  refine CS.iter 8 (fun i => [(11, i64 i), (7, i64 (sm (fun i => v i * w i) i)), (10, .arr 8 (bys v)), (5, ptr (n + 2) 0), (3, ptr n 0)])
    (fun i => (n + 2, ⟨8, bys w, 34⟩) :: (n + 1, ⟨8, bys v, 34⟩) :: (n, ⟨2, fldC p n', 76⟩) :: H) (fun _ => True) (by (repeat first | exact trivial | refine And.intro rfl ?_)) (Drops.keepc rfl rfl (fun _ _ => rfl) (Drops.keepc rfl rfl (fun _ _ => rfl) (Drops.refl _ _))) trivial ?_
  intro i n1 hi hn _
  have hs := sm_b (f := fun i => v i * w i) (B := 65025) (n := i) (fun q hq => by
    have h1 := hv q (by omega)
    have h2 := hw q (by omega)
    exact mulB h1.1 h1.2 h2.1 h2.2)
  (refine zG ?_)
  refine zI ?_ ?_<;>intro h1
  · have hvi := hv i (by omega)
    have hwi := hw i (by omega)
    have hvw := mulB hvi.1 hvi.2 hwi.1 hwi.2
    (refine zG ?_)
    exact ⟨by omega, by (repeat first | exact trivial | refine And.intro rfl ?_), Drops.refl _ _, trivial⟩
  · have : i = 8 := by omega
    subst this
    (refine zG ?_)
    exact ⟨i64 (dotk p v w 8), H, rfl, by exact zD, rfl, rfl⟩
/-- (*impl.Hopf).field -/
def ir129 : Cd := (.seq (.reg [⟨some 2,none,.new 76 [(2,(.int .i64 0))]⟩]) (.seq (.drw true [9] [⟨some 3,none,.mov (.t 0)⟩,⟨some 4,none,.ck (.t 3)⟩,⟨some 5,none,.fa 0 (.t 4)⟩,⟨some 6,none,.ld none (.t 5)⟩,⟨some 7,none,.mov (.t 0)⟩,⟨some 8,none,.ck (.t 7)⟩,⟨some 9,none,.fa 1 (.t 8)⟩,⟨some 10,none,.ld none (.t 9)⟩,⟨some 11,none,.build 2 [(2,(.int .i64 0))] [(0,1,(.t 6)),(1,1,(.t 10))]⟩,⟨none,none,.st 2 (.t 2) (.t 11)⟩]) .ret))
set_option maxRecDepth 100000 in
theorem tr129 : trFn Tryz.prog Tryz.f129 = some (12, ir129, [.cell (some 2) 2]) := by kernel_rfl
theorem Hopf_field (p n' : Int) (b : Nat) (K : Blk) (H : Hp) (n : Nat) (hb : H.get b = some K) (hsz : K.size = 1106) (h0 : K.c 0 = .int .i64 p) (h1 : K.c 1 = .int .i64 n')
    (hr : -9223372036854775808 ≤ p ∧ p ≤ 9223372036854775807 ∧ -9223372036854775808 ≤ n' ∧ n' ≤ 9223372036854775807) :
    FnS Tryz.prog 129 [ptr b 0] H n (fun r H' _ => r = fld p n' ∧ H' = H) := by
  refine FnS.of_body Tryz.func129 tr129 (by simp) (fun hf => ?_)
  dsimp only [argEnv]
  unfold ir129
  have hbn := getlt hf hb
  (repeat first|refine zG ?_|(refine LS.nilO ?_;intro nq hnq hltq;try refine zU ?_)|(refine MS.new ?_;intro bq hbq hbqf;try refine zU ?_)|(refine MS.nil ?_;intro nq hnq hltq;have hlq:=hltq _ _ (Hp.get_eq _ _ _);clear hltq;try refine zU ?_)|(refine LS.nilQ ?_;try with_reducible intro nq hnq;try refine zU ?_))
  exact ⟨fld p n', _, conc_arr (fldC_of rfl rfl), by exact zD, rfl, rfl⟩
/-- impl.pairs -/
def ir50 : Cd := (.seq (.reg [⟨some 7,none,.mov (.c (.int .i64 0))⟩]) (.block 0 (.loop (.seq (.reg [⟨some 8,none,.bin .lss (.t 7) (.c (.int .i64 8))⟩]) (.seq (.cond (.t 8) .skip (.exit 0)) (.seq (.block 1 (.seq (.reg [⟨some 9,none,.mov (.t 7)⟩,⟨some 4,none,.mov (.t 9)⟩]) (.seq (.reg [⟨some 10,none,.mov (.t 0)⟩,⟨some 11,none,.mov (.t 4)⟩,⟨some 12,none,.ck (.t 10)⟩,⟨some 13,none,.ia 8 8 (.t 12) (.t 11)⟩,⟨some 14,none,.ld (some 8) (.t 13)⟩,⟨some 15,none,.mov (.c (.int .i64 0))⟩]) (.block 2 (.loop (.seq (.reg [⟨some 16,none,.bin .lss (.t 15) (.c (.int .i64 8))⟩]) (.seq (.cond (.t 16) .skip (.exit 2)) (.seq (.block 3 (.seq (.reg [⟨some 17,none,.mov (.t 15)⟩,⟨some 18,none,.ix 8 1 none (.t 14) (.t 15)⟩,⟨some 5,none,.mov (.t 17)⟩,⟨some 6,none,.mov (.t 18)⟩]) (.seq (.reg [⟨some 19,none,.mov (.t 6)⟩,⟨some 20,none,.bin .neq (.t 19) (.c (.int .u8 0))⟩]) (.cond (.t 20) (.reg [⟨some 21,none,.mov (.t 1)⟩,⟨some 22,none,.mov (.t 4)⟩,⟨some 23,none,.mov (.t 5)⟩,⟨some 24,none,.mov (.t 6)⟩,⟨some 25,none,.cv .i64 (.t 24)⟩,⟨some 26,none,.callv (.t 21) [(.t 22),(.t 23),(.t 25)]⟩]) .skip)))) (.reg [⟨some 27,none,.bin .add (.t 15) (.c (.int .i64 1))⟩,⟨some 15,none,.mov (.t 27)⟩]))))))))) (.reg [⟨some 28,none,.bin .add (.t 7) (.c (.int .i64 1))⟩,⟨some 7,none,.mov (.t 28)⟩])))))))
set_option maxRecDepth 100000 in
theorem tr50 : trFn Tryz.prog Tryz.f50 = some (29, ir50, []) := by kernel_rfl
theorem impl_pairs (l : Nat → Int) (b o : Nat) (F : FuncId) (post : List SV) (M : Nat → Hp) (H : Hp) (n : Nat) (h0 : M 0 = H)
    (hb : ∀ t, t < 64 → ∃ K, (M t).get b = some K ∧ o + 64 ≤ K.size ∧ ∀ i, i < 64 → K.c (o + i) = .int .u8 (l i)) (hl : isBy 64 l) (hM : ∀ t : Nat, t < 64 → l t = 0 → M (t + 1) = M t)
    (hF : ∀ t j k n' : Nat, t < 64 → t = 8 * j + k → k < 8 → l t ≠ 0 → n ≤ n' → FnS Tryz.prog F ([i64 j, i64 k, i64 (l t)] ++ post.map .s) (M t) n' (fun _ H' _ => H' = M (t + 1))) :
    FnS Tryz.prog 50 [ptr b o, .s (.fn F [] post)] H n (fun _ H' _ => H' = M 64) := by
  subst h0
  refine FnS.of_body Tryz.func50 tr50 (by simp) (fun hf => ?_)
  dsimp only [argEnv]
  unfold ir50
  (refine zG ?_)
  refine CS.iter 8 (fun j => [(7, i64 j), (0, ptr b o), (1, .s (.fn F [] post))]) (fun j => M (8 * j)) (fun _ => True) (by (repeat first | exact trivial | refine And.intro rfl ?_)) (Drops.refl _ _) trivial ?_
  intro j n1 hj hn _
  (refine zG ?_)
  refine zI ?_ ?_<;>intro h2
  · obtain ⟨K, hK1, hK2, hK3⟩ := hb (8 * j) (by omega)
    (refine zG ?_)
    refine CS.iter 8 (fun k => [(15, i64 k), (14, .arr 8 (bys (fun x => l (8 * j + x)))), (4, i64 j), (7, i64 j), (0, ptr b o), (1, .s (.fn F [] post))]) (fun k => M (8 * j + k)) (fun _ => True) (by (repeat first | exact trivial | refine And.intro rfl ?_)) (Drops.refl _ _) trivial ?_
    intro k n2 hk hn2 _
    (refine zG ?_)
    refine zI ?_ ?_<;>intro h3
    · have hlk := hl (8 * j + k) (by omega)
      (refine zG ?_)
      refine CS.condN rfl (fun h4 => ?_) (fun h4 => ?_)
      · (refine zG ?_)
        refine RS.callv (f := F) (pre := []) (post := post) (vs := [i64 j, i64 k, i64 (l (8 * j + k))]) (by exact rfl) (by exact rfl) ?_
        refine FnS.mono (hF (8 * j + k) j k n2 (by omega) rfl (by omega) h4 (by omega)) ?_
        rintro r H n3 hn3 rfl
        (refine zG ?_)
        exact ⟨by omega, by (repeat first | exact trivial | refine And.intro rfl ?_), Drops.refl _ _, trivial⟩
      · (refine zG ?_)
        exact ⟨by omega, by (repeat first | exact trivial | refine And.intro rfl ?_), by rw [show 8 * j + (k + 1) = 8 * j + k + 1 by omega, hM _ (by omega) h4]; exact Drops.refl _ _, trivial⟩
    · have : k = 8 := by omega
      subst this
      (refine zG ?_)
      exact ⟨by omega, by (repeat first | exact trivial | refine And.intro rfl ?_), Drops.refl _ _, trivial⟩
  · have : j = 8 := by omega
    subst this
    (refine zG ?_)
    exact ⟨_, M 64, rfl, by exact zD, rfl⟩
/-- spec.l03Algebra -/
def ir60 : Cd := (.seq (.reg [⟨some 1,none,.box 40 (.t 0)⟩,⟨some 2,none,.new 43 [(2,(.int .i64 0)),(520,(.int .u8 0))]⟩]) (.seq (.reg [⟨some 3,none,.fa 0 (.t 1)⟩,⟨some 4,none,.ld none (.t 3)⟩,⟨some 5,none,.fa 1 (.t 1)⟩,⟨some 6,none,.ld none (.t 5)⟩,⟨some 7,none,.fa 2 (.t 1)⟩,⟨some 8,none,.ld (some 8) (.t 7)⟩,⟨some 9,none,.fa 10 (.t 1)⟩,⟨some 10,none,.ld (some 512) (.t 9)⟩,⟨some 11,none,.build 522 [(2,(.int .i64 0)),(520,(.int .u8 0))] [(0,1,(.t 4)),(1,1,(.t 6)),(2,8,(.t 8)),(10,512,(.t 10))]⟩,⟨none,none,.st 522 (.t 2) (.t 11)⟩]) .ret))
set_option maxRecDepth 100000 in
theorem tr60 : trFn Tryz.prog Tryz.f60 = some (12, ir60, [.cell (some 522) 2]) := by kernel_rfl
theorem spec_l03Algebra (K : Nat → SV) (h : HT) (H : Hp) (n : Nat) (hK : h.At K) :
    FnS Tryz.prog 60 [.arr 1106 K] H n (fun r H' _ => r = .arr 522 K ∧ H' = H) := by
  obtain ⟨k0, k1, k2, k3, k4, k5, k6⟩ := hK
  refine FnS.of_body Tryz.func60 tr60 (by simp) (fun hf => ?_)
  dsimp only [argEnv]
  unfold ir60
  (refine zG ?_)
  refine ⟨.arr 522 K, H, conc_arr (fun q hq => ?_), by exact zD, rfl, rfl⟩
  simp only [Nat.zero_add, splice, put1]
  by_cases e0 : q < 2
  · rw [if_neg (by omega), if_neg (by omega)]
    by_cases e1 : q = 1
    · subst e1; rw [if_pos rfl]; exact k1.symm
    · have : q = 0 := by omega
      subst this; rw [if_neg (by omega), if_pos rfl]; exact k0.symm
  by_cases e1 : q < 10
  · rw [if_neg (by omega), if_pos (by omega)]
    have := k2 (q - 2) (by omega)
    rw [show 2 + (q - 2) = q by omega] at this
    rw [this]; rfl
  · rw [if_pos (by omega)]
    have := k3 (q - 10) (by omega)
    rw [show 10 + (q - 10) = q by omega] at this
    rw [this]; rfl
/-- spec.l01Zero -/
def ir88 : Cd := (.seq (.reg [⟨some 1,none,.box 34 (.t 0)⟩,⟨some 2,none,.mov (.c (.bool false))⟩]) (.seq (.reg [⟨some 3,none,.ld (some 8) (.t 1)⟩,⟨some 4,none,.build 8 [(8,(.int .u8 0))] []⟩,⟨some 5,none,.eqa false 8 (.t 3) (.t 4)⟩,⟨some 2,none,.mov (.t 5)⟩]) .ret))
set_option maxRecDepth 100000 in
theorem tr88 : trFn Tryz.prog Tryz.f88 = some (6, ir88, [.tmp 2]) := by kernel_rfl
theorem spec_l01Zero (v : Nat → Int) (H : Hp) (n : Nat) :
    FnS Tryz.prog 88 [.arr 8 (bys v)] H n (fun r H' _ => r = bl (tb (∀ q, q < 8 → v q = 0)) ∧ H' = H) := by
  refine FnS.of_body Tryz.func88 tr88 (by simp) (fun hf => ?_)
  dsimp only [argEnv]
  unfold ir88
  (refine zG ?_)
  exact ⟨_, H, rfl, by exact zD, rfl, rfl⟩
end Go.Proofs.YtmkegkpabifpfaaGreat

/- Contracts of the program's functions. -/
namespace Go.Proofs.YtmkegkpabifpfaaGreat
open Go.V
set_option linter.unusedSimpArgs false
set_option linter.unusedVariables false
set_option maxHeartbeats 4000000
/-- impl.in -/
def ir123 : Cd := (.seq (.reg [⟨some 6,none,.mov (.c (.bool false))⟩]) (.seq (.reg [⟨some 7,none,.mov (.t 1)⟩,⟨some 8,none,.mov (.t 0)⟩,⟨some 9,none,.bin .leq (.t 7) (.t 8)⟩,⟨some 10,none,.mov (.t 9)⟩,⟨some 11,(some (10,true)),.mov (.t 0)⟩,⟨some 12,(some (10,true)),.mov (.t 2)⟩,⟨some 13,(some (10,true)),.bin .leq (.t 11) (.t 12)⟩,⟨some 14,none,.pick (.t 10) (.t 13) (.c (.bool false))⟩,⟨some 6,none,.mov (.t 14)⟩]) .ret))
set_option maxRecDepth 100000 in
theorem tr123 : trFn Tryz.prog Tryz.f123 = some (15, ir123, [.tmp 6]) := by kernel_rfl
theorem impl_in (x a b : Int) (H : Hp) (n : Nat) :
    FnS Tryz.prog 123 [i64 x, i64 a, i64 b] H n (fun v H' _ => v = bl (decide (a ≤ x ∧ x ≤ b)) ∧ H' = H) := by
  refine FnS.of_body Tryz.func123 tr123 (by simp) (fun hf => ?_)
  dsimp only [argEnv]
  unfold ir123
  (refine zG ?_)
  refine RS.sp (t := 10) rfl (fun h => ?_) (fun h => ?_) <;> (try simp only [tb_eq, tb_eqF, decide_eq_true_eq, decide_eq_false_iff_not, beq_iff_eq, bne_iff_ne, ne_eq, Decidable.not_not, beq_eq_false_iff_ne, bne_eq_false_iff_eq, Bool.not_eq_true', Bool.not_eq_false', Bool.not_eq_eq_eq_not, Bool.not_true, Bool.not_false] at h)
  all_goals
    (refine zG ?_)
    exact ⟨_, H, rfl, by exact zD, by simp [h], rfl⟩
/-- spec.l01Inverse -/
def ir89 : Cd := (.seq (.reg [⟨some 4,none,.mov (.c (.int .u8 0))⟩]) (.seq (.seq (.reg [⟨some 5,none,.mov (.c (.int .i64 1))⟩]) (.block 0 (.loop (.seq (.seq (.reg [⟨some 6,none,.mov (.t 5)⟩,⟨some 7,none,.mov (.t 0)⟩,⟨some 8,none,.bin .lss (.t 6) (.t 7)⟩]) (.cond (.t 8) .skip (.exit 0))) (.seq (.block 1 (.seq (.reg [⟨some 11,none,.mov (.t 5)⟩,⟨some 12,none,.mov (.t 1)⟩,⟨some 13,none,.cv .i64 (.t 12)⟩,⟨some 14,none,.bin .mul (.t 11) (.t 13)⟩,⟨some 15,none,.mov (.t 0)⟩,⟨some 16,none,.bin .rem (.t 14) (.t 15)⟩,⟨some 17,none,.bin .eql (.t 16) (.c (.int .i64 1))⟩]) (.cond (.t 17) (.seq (.reg [⟨some 18,none,.mov (.t 5)⟩,⟨some 19,none,.cv .u8 (.t 18)⟩,⟨some 4,none,.mov (.t 19)⟩]) .ret) .skip))) (.reg [⟨some 9,none,.mov (.t 5)⟩,⟨some 10,none,.bin .add (.t 9) (.c (.int .i64 1))⟩,⟨some 5,none,.mov (.t 10)⟩])))))) (.seq (.reg [⟨some 4,none,.mov (.c (.int .u8 0))⟩]) .ret)))
set_option maxRecDepth 100000 in
theorem tr89 : trFn Tryz.prog Tryz.f89 = some (20, ir89, [.tmp 4]) := by kernel_rfl
theorem spec_l01Inverse (p x : Int) (H : Hp) (n : Nat) (hp : isP p = true) (hx : 0 ≤ x ∧ x ≤ 255) (hx0 : x % p ≠ 0) :
    FnS Tryz.prog 89 [i64 p, u8 x] H n (fun v H' _ => v = u8 (inv p x) ∧ H' = H) := by
  have hb := isP_le hp
  have hs := inv_spec hp hx0
  refine FnS.of_body Tryz.func89 tr89 (by simp) (fun hf => ?_)
  dsimp only [argEnv]
  unfold ir89
  (refine zG ?_)
  refine CS.iter 31 (fun i => [(5, i64 (i + 1 : Nat)), (0, i64 p), (1, u8 x)]) (fun _ => H) (fun i => ((i + 1 : Nat) : Int) ≤ p ∧ ∀ k : Nat, 1 ≤ k → k < i + 1 → (k : Int) * x % p ≠ 1) (by (repeat first | exact trivial | refine And.intro rfl ?_)) (Drops.refl _ _) ⟨by omega, fun k h1 h2 => by omega⟩ ?_
  intro i n1 hi hn ⟨hJ1, hJ⟩
  have hm := mulB (a := ((i + 1 : Nat) : Int)) (b := x) (A := 31) (B := 255) (by omega) (by omega) (by omega) (by omega)
  (refine zG ?_)
  refine zI ?_ ?_<;>intro h1
  · (refine zG ?_)
    refine zI ?_ ?_<;>intro h2
    · (refine zG ?_)
      exact ⟨u8 (inv p x), H, by rw [inv_eq hp (by omega) (by omega) h2], by exact zD, rfl, rfl⟩
    · (refine zG ?_)
      refine ⟨by omega, by (repeat first | exact trivial | refine And.intro rfl ?_), by exact zD, by omega, fun k h3 h4 => ?_⟩
      by_cases e : k < i + 1
      · exact hJ k h3 e
      · have : k = i + 1 := by omega
        subst this; exact h2
  · exfalso
    obtain ⟨q, hq⟩ : ∃ q : Nat, inv p x = q := ⟨(inv p x).toNat, by omega⟩
    exact hJ q (by omega) (by omega) (by rw [← hq]; exact hs.2.2)
/-- spec.l01Vector -/
def ir61 : Cd := (.seq (.reg [⟨some 5,none,.box 34 (.t 2)⟩,⟨some 6,none,.mov (.c (.bool false))⟩]) (.seq (.seq (.reg [⟨some 7,none,.mov (.c (.int .i64 0))⟩]) (.block 0 (.loop (.seq (.seq (.reg [⟨some 8,none,.mov (.t 7)⟩,⟨some 9,none,.bin .lss (.t 8) (.c (.int .i64 8))⟩]) (.cond (.t 9) .skip (.exit 0))) (.seq (.block 1 (.seq (.reg [⟨some 12,none,.mov (.t 7)⟩,⟨some 13,none,.ia 8 1 (.t 5) (.t 12)⟩,⟨some 14,none,.ld none (.t 13)⟩,⟨some 15,none,.cv .i64 (.t 14)⟩,⟨some 16,none,.mov (.t 0)⟩,⟨some 17,none,.bin .geq (.t 15) (.t 16)⟩,⟨some 18,none,.mov (.t 17)⟩,⟨some 19,(some (18,false)),.mov (.t 7)⟩,⟨some 20,(some (18,false)),.mov (.t 1)⟩,⟨some 21,(some (18,false)),.bin .geq (.t 19) (.t 20)⟩,⟨some 22,(some (18,false)),.mov (.t 21)⟩,⟨some 23,(some (22,true)),.mov (.t 7)⟩,⟨some 24,(some (22,true)),.ia 8 1 (.t 5) (.t 23)⟩,⟨some 25,(some (22,true)),.ld none (.t 24)⟩,⟨some 26,(some (22,true)),.bin .neq (.t 25) (.c (.int .u8 0))⟩,⟨some 27,(some (18,false)),.pick (.t 22) (.t 26) (.c (.bool false))⟩,⟨some 28,none,.pick (.t 18) (.c (.bool true)) (.t 27)⟩]) (.cond (.t 28) (.seq (.reg [⟨some 6,none,.mov (.c (.bool false))⟩]) .ret) .skip))) (.reg [⟨some 10,none,.mov (.t 7)⟩,⟨some 11,none,.bin .add (.t 10) (.c (.int .i64 1))⟩,⟨some 7,none,.mov (.t 11)⟩])))))) (.seq (.reg [⟨some 6,none,.mov (.c (.bool true))⟩]) .ret)))
set_option maxRecDepth 100000 in
theorem tr61 : trFn Tryz.prog Tryz.f61 = some (29, ir61, [.tmp 6]) := by kernel_rfl
theorem spec_l01Vector (p n' : Int) (v : Nat → Int) (H : Hp) (n : Nat) (hv : isBy 8 v) :
    FnS Tryz.prog 61 [i64 p, i64 n', .arr 8 (bys v)] H n (fun r H' _ => r = bl (tb (isVec p n' v)) ∧ H' = H) := by
  refine FnS.of_body Tryz.func61 tr61 (by simp) (fun hf => ?_)
  dsimp only [argEnv]
  unfold ir61
  (refine zG ?_)
  refine CS.iter 8 (fun i => [(7, i64 i), (5, ptr n 0), (0, i64 p), (1, i64 n')]) (fun _ => (n, ⟨8, bys v, 34⟩) :: H) (fun i => ∀ j : Nat, j < i → v j < p ∧ (n' ≤ j → v j = 0)) (by (repeat first | exact trivial | refine And.intro rfl ?_)) (Drops.refl _ _) (fun j hj => by omega) ?_
  intro i n4 hi hn4 hJ
  (refine zG ?_)
  refine zI ?_ ?_<;>intro h3
  · have hvi := hv i (by omega)
    (refine zG ?_)
    refine RS.sp (t := 18) rfl (fun h4 => ?_) (fun h4 => ?_) <;> (try simp only [tb_eq, tb_eqF, decide_eq_true_eq, decide_eq_false_iff_not, beq_iff_eq, bne_iff_ne, ne_eq, Decidable.not_not, beq_eq_false_iff_ne, bne_eq_false_iff_eq, Bool.not_eq_true', Bool.not_eq_false', Bool.not_eq_eq_eq_not, Bool.not_true, Bool.not_false] at h4)
    · (refine zG ?_)
      exact ⟨_, H, rfl, by exact zD, by rw [tb_false (fun h => by have := (h i (by omega)).1; omega)], rfl⟩
    · (refine zG ?_)
      refine RS.sp (t := 22) rfl (fun h5 => ?_) (fun h5 => ?_) <;> (try simp only [tb_eq, tb_eqF, decide_eq_true_eq, decide_eq_false_iff_not, beq_iff_eq, bne_iff_ne, ne_eq, Decidable.not_not, beq_eq_false_iff_ne, bne_eq_false_iff_eq, Bool.not_eq_true', Bool.not_eq_false', Bool.not_eq_eq_eq_not, Bool.not_true, Bool.not_false] at h5)
      · (refine zG ?_)
        refine zI ?_ ?_<;>intro h6
        · (refine zG ?_)
          exact ⟨_, H, rfl, by exact zD, by rw [tb_false (fun h => h6 ((h i (by omega)).2 (by omega)))], rfl⟩
        · (refine zG ?_)
          refine ⟨by omega, by (repeat first | exact trivial | refine And.intro rfl ?_), by exact zD, fun j hj => ?_⟩
          by_cases e : j < i
          · exact hJ j e
          · have : j = i := by omega
            subst this; exact ⟨by omega, fun _ => h6⟩
      · (refine zG ?_)
        refine ⟨by omega, by (repeat first | exact trivial | refine And.intro rfl ?_), by exact zD, fun j hj => ?_⟩
        by_cases e : j < i
        · exact hJ j e
        · have : j = i := by omega
          subst this; exact ⟨by omega, fun h => by omega⟩
  · (refine zG ?_)
    exact ⟨_, H, rfl, by exact zD, by rw [tb_true (show isVec p n' v from fun j hj => hJ j (by omega))], rfl⟩
/-- spec.l01Basis -/
def ir40 : Cd := (.seq (.reg [⟨some 2,none,.new 34 [(8,(.int .u8 0))]⟩]) (.seq (.reg [⟨some 4,none,.build 8 [(8,(.int .u8 0))] []⟩,⟨some 3,none,.new 34 [(8,(.int .u8 0))]⟩,⟨none,none,.st 8 (.t 3) (.t 4)⟩]) (.seq (.reg [⟨some 5,none,.mov (.t 0)⟩,⟨some 6,none,.ia 8 1 (.t 3) (.t 5)⟩,⟨none,none,.st 1 (.t 6) (.c (.int .u8 1))⟩]) (.seq (.reg [⟨some 7,none,.ld (some 8) (.t 3)⟩,⟨none,none,.st 8 (.t 2) (.t 7)⟩]) .ret))))
set_option maxRecDepth 100000 in
theorem tr40 : trFn Tryz.prog Tryz.f40 = some (8, ir40, [.cell (some 8) 2]) := by kernel_rfl
theorem spec_l01Basis (i : Nat) (H : Hp) (n : Nat) (hi : i < 8) :
    FnS Tryz.prog 40 [i64 i] H n (fun r H' _ => r = .arr 8 (bys (bas i)) ∧ H' = H) := by
  refine FnS.of_body Tryz.func40 tr40 (by simp) (fun hf => ?_)
  dsimp only [argEnv]
  unfold ir40
  (refine zG ?_)
  exact ⟨.arr 8 (bys (bas i)), H, conc_arr (fun q hq => by simp only [Nat.zero_add, put1, bys, bas]; split <;> rfl), by exact zD, rfl, rfl⟩
/-- (*impl.Algebra).field -/
def ir49 : Cd := (.seq (.reg [⟨some 2,none,.new 76 [(2,(.int .i64 0))]⟩]) (.seq (.drw true [9] [⟨some 3,none,.mov (.t 0)⟩,⟨some 4,none,.ck (.t 3)⟩,⟨some 5,none,.fa 0 (.t 4)⟩,⟨some 6,none,.ld none (.t 5)⟩,⟨some 7,none,.mov (.t 0)⟩,⟨some 8,none,.ck (.t 7)⟩,⟨some 9,none,.fa 1 (.t 8)⟩,⟨some 10,none,.ld none (.t 9)⟩,⟨some 11,none,.build 2 [(2,(.int .i64 0))] [(0,1,(.t 6)),(1,1,(.t 10))]⟩,⟨none,none,.st 2 (.t 2) (.t 11)⟩]) .ret))
set_option maxRecDepth 100000 in
theorem tr49 : trFn Tryz.prog Tryz.f49 = some (12, ir49, [.cell (some 2) 2]) := by kernel_rfl
theorem Algebra_field (p n' : Int) (b : Nat) (K : Blk) (H : Hp) (n : Nat) (hb : H.get b = some K) (hsz : K.size = 522) (h0 : K.c 0 = .int .i64 p) (h1 : K.c 1 = .int .i64 n')
    (hr : -9223372036854775808 ≤ p ∧ p ≤ 9223372036854775807 ∧ -9223372036854775808 ≤ n' ∧ n' ≤ 9223372036854775807) :
    FnS Tryz.prog 49 [ptr b 0] H n (fun r H' _ => r = fld p n' ∧ H' = H) := by
  refine FnS.of_body Tryz.func49 tr49 (by simp) (fun hf => ?_)
  dsimp only [argEnv]
  unfold ir49
  have hbn := getlt hf hb
  (repeat first|refine zG ?_|(refine LS.nilO ?_;intro nq hnq hltq;try refine zU ?_)|(refine MS.new ?_;intro bq hbq hbqf;try refine zU ?_)|(refine MS.nil ?_;intro nq hnq hltq;have hlq:=hltq _ _ (Hp.get_eq _ _ _);clear hltq;try refine zU ?_)|(refine LS.nilQ ?_;try with_reducible intro nq hnq;try refine zU ?_))
  exact ⟨fld p n', _, conc_arr (fldC_of rfl rfl), by exact zD, rfl, rfl⟩
/-- (*impl.Hopf).algebra -/
def ir107 : Cd := (.seq (.reg [⟨some 2,none,.mov (.c .nil)⟩]) (.seq (.drw true [17] [⟨some 3,none,.mov (.t 0)⟩,⟨some 4,none,.ck (.t 3)⟩,⟨some 5,none,.fa 0 (.t 4)⟩,⟨some 6,none,.ld none (.t 5)⟩,⟨some 7,none,.mov (.t 0)⟩,⟨some 8,none,.ck (.t 7)⟩,⟨some 9,none,.fa 1 (.t 8)⟩,⟨some 10,none,.ld none (.t 9)⟩,⟨some 11,none,.mov (.t 0)⟩,⟨some 12,none,.ck (.t 11)⟩,⟨some 13,none,.fa 2 (.t 12)⟩,⟨some 14,none,.ld (some 8) (.t 13)⟩,⟨some 15,none,.mov (.t 0)⟩,⟨some 16,none,.ck (.t 15)⟩,⟨some 17,none,.fa 10 (.t 16)⟩,⟨some 18,none,.ld (some 512) (.t 17)⟩,⟨some 19,none,.build 522 [(2,(.int .i64 0)),(520,(.int .u8 0))] [(0,1,(.t 6)),(1,1,(.t 10)),(2,8,(.t 14)),(10,512,(.t 18))]⟩,⟨some 20,none,.box 43 (.t 19)⟩,⟨some 2,none,.mov (.t 20)⟩]) .ret))
set_option maxRecDepth 100000 in
theorem tr107 : trFn Tryz.prog Tryz.f107 = some (21, ir107, [.tmp 2]) := by kernel_rfl
theorem Hopf_algebra (h : HT) (b : Nat) (K : Blk) (H : Hp) (n : Nat) (hb : H.get b = some K) (hsz : K.size = 1106) (hK : h.At K.c) :
    FnS Tryz.prog 107 [ptr b 0] H n (newAlg 43 h.p h.n h.u h.m n H) := by
  obtain ⟨k0, k1, k2, k3, k4, k5, k6⟩ := hK
  refine FnS.of_body Tryz.func107 tr107 (by simp) (fun hf => ?_)
  dsimp only [argEnv]
  unfold ir107
  have hbn := getlt hf hb
  (repeat first|refine zG ?_|(refine LS.nilO ?_;intro nq hnq hltq;try refine zU ?_)|(refine MS.new ?_;intro bq hbq hbqf;try refine zU ?_)|(refine MS.nil ?_;intro nq hnq hltq;have hlq:=hltq _ _ (Hp.get_eq _ _ _);clear hltq;try refine zU ?_)|(refine LS.nilQ ?_;try with_reducible intro nq hnq;try refine zU ?_))
  refine ⟨ptr nq 0, _, rfl, Drops.refl _ _, nq, _, rfl, hnq, by omega, rfl, ?_, ?_, fun q hq => ?_, fun q hq => ?_⟩
  · simp [splice, put1]
  · simp [splice, put1]
  · simp only [splice]
    rw [if_neg (by omega), if_pos (by omega), Nat.add_sub_cancel_left]
    rfl
  · simp only [splice]
    rw [if_pos (by omega), Nat.add_sub_cancel_left]
    rfl
/-- laws.toVector -/
def ir15 : Cd := (.seq (.reg [⟨some 1,none,.box 22 (.t 0)⟩,⟨some 2,none,.new 34 [(8,(.int .u8 0))]⟩]) (.seq (.reg [⟨some 3,none,.new 34 [(8,(.int .u8 0))]⟩]) (.seq (.seq (.reg [⟨some 4,none,.mov (.c (.int .i64 0))⟩]) (.block 0 (.loop (.seq (.seq (.reg [⟨some 5,none,.mov (.t 4)⟩,⟨some 6,none,.bin .lss (.t 5) (.c (.int .i64 8))⟩]) (.cond (.t 6) .skip (.exit 0))) (.seq (.block 1 (.reg [⟨some 9,none,.mov (.t 4)⟩,⟨some 10,none,.mov (.t 4)⟩,⟨some 11,none,.ia 8 1 (.t 1) (.t 10)⟩,⟨some 12,none,.ld none (.t 11)⟩,⟨some 13,none,.ia 8 1 (.t 3) (.t 9)⟩,⟨none,none,.st 1 (.t 13) (.t 12)⟩])) (.reg [⟨some 7,none,.mov (.t 4)⟩,⟨some 8,none,.bin .add (.t 7) (.c (.int .i64 1))⟩,⟨some 4,none,.mov (.t 8)⟩])))))) (.seq (.reg [⟨some 14,none,.ld (some 8) (.t 3)⟩,⟨none,none,.st 8 (.t 2) (.t 14)⟩]) .ret))))
set_option maxRecDepth 100000 in
theorem tr15 : trFn Tryz.prog Tryz.f15 = some (15, ir15, [.cell (some 8) 2]) := by kernel_rfl
theorem laws_toVector (v : Nat → Int) (H : Hp) (n : Nat) :
    FnS Tryz.prog 15 [.arr 8 (bys v)] H n (fun r H' _ => r = .arr 8 (bys v) ∧ H' = H) := by
  refine FnS.of_body Tryz.func15 tr15 (by simp) (fun hf => ?_)
  dsimp only [argEnv]
  unfold ir15
  (refine zG ?_)
  refine CS.iter 8 (fun i => [(4, i64 i), (1, ptr n 0), (2, ptr (n + 1) 0), (3, ptr (n + 2) 0)])
    (fun i => (n + 2, ⟨8, bys (cellsTo v i), 34⟩) :: (n + 1, ⟨8, bys (fun _ => 0), 34⟩) :: (n, ⟨8, bys v, 22⟩) :: H) (fun _ => True) (by (repeat first | exact trivial | refine And.intro rfl ?_))
    (Drops.keepc rfl rfl (fun _ _ => by rw [cellsTo_zero]; rfl) (Drops.keepc rfl rfl (fun _ _ => rfl) (Drops.refl _ _))) trivial ?_
  intro i n1 hi hn _
  have hk : ∀ q, q < 8 → (bys v) q = .int .u8 (v q) := fun q hq => rfl
  (refine zG ?_)
  refine zI ?_ ?_<;>intro h1
  · (refine zG ?_)
    exact ⟨by omega, by (repeat first | exact trivial | refine And.intro rfl ?_), Drops.keepc rfl rfl (fun q hq => cellsTo_step v i q) (Drops.refl _ _), trivial⟩
  · have : i = 8 := by omega
    subst this
    (refine zG ?_)
    exact ⟨.arr 8 (bys v), H, conc_arr (fun q hq => by simp only [Nat.zero_add, bys, cellsTo]; rw [if_pos hq]), by exact zD, rfl, rfl⟩
/-- laws.eqVector -/
def ir21 : Cd := (.seq (.reg [⟨some 2,none,.box 34 (.t 0)⟩,⟨some 3,none,.box 34 (.t 1)⟩,⟨some 4,none,.mov (.c (.bool false))⟩]) (.seq (.seq (.reg [⟨some 5,none,.mov (.c (.int .i64 0))⟩]) (.block 0 (.loop (.seq (.seq (.reg [⟨some 6,none,.mov (.t 5)⟩,⟨some 7,none,.bin .lss (.t 6) (.c (.int .i64 8))⟩]) (.cond (.t 7) .skip (.exit 0))) (.seq (.block 1 (.seq (.drw true [] [⟨some 10,none,.mov (.t 5)⟩,⟨some 11,none,.ia 8 1 (.t 2) (.t 10)⟩,⟨some 12,none,.ld none (.t 11)⟩,⟨some 13,none,.mov (.t 5)⟩,⟨some 14,none,.ia 8 1 (.t 3) (.t 13)⟩,⟨some 15,none,.ld none (.t 14)⟩,⟨some 16,none,.bin .neq (.t 12) (.t 15)⟩]) (.cond (.t 16) (.seq (.reg [⟨some 4,none,.mov (.c (.bool false))⟩]) .ret) .skip))) (.reg [⟨some 8,none,.mov (.t 5)⟩,⟨some 9,none,.bin .add (.t 8) (.c (.int .i64 1))⟩,⟨some 5,none,.mov (.t 9)⟩])))))) (.seq (.reg [⟨some 4,none,.mov (.c (.bool true))⟩]) .ret)))
set_option maxRecDepth 100000 in
theorem tr21 : trFn Tryz.prog Tryz.f21 = some (17, ir21, [.tmp 4]) := by kernel_rfl
theorem laws_eqVector (f g : Nat → Int) (H : Hp) (n : Nat) :
    FnS Tryz.prog 21 [.arr 8 (bys f), .arr 8 (bys g)] H n (fun r H' _ => r = bl (tb (∀ q, q < 8 → f q = g q)) ∧ H' = H) := by
  refine FnS.of_body Tryz.func21 tr21 (by simp) (fun hf => ?_)
  dsimp only [argEnv]
  unfold ir21
  (refine zG ?_)
  refine CS.iter 8 (fun i => [(5, i64 i), (2, ptr n 0), (3, ptr (n + 1) 0)]) (fun _ => (n + 1, ⟨8, bys g, 34⟩) :: (n, ⟨8, bys f, 34⟩) :: H) (fun i => ∀ q, q < i → f q = g q) (by (repeat first | exact trivial | refine And.intro rfl ?_)) (by exact zD) (fun _ h => by omega) ?_
  intro i n1 hi hn hJ
  (refine zG ?_)
  refine zI ?_ ?_<;>intro h1
  · (repeat first|refine zG ?_|(refine LS.nilO ?_;intro nq hnq hltq;try refine zU ?_)|(refine MS.new ?_;intro bq hbq hbqf;try refine zU ?_)|(refine MS.nil ?_;intro nq hnq hltq;have hlq:=hltq _ _ (Hp.get_eq _ _ _);clear hltq;try refine zU ?_)|(refine LS.nilQ ?_;try with_reducible intro nq hnq;try refine zU ?_))
    refine zI ?_ ?_<;>intro h2
    · (refine zG ?_)
      exact ⟨_, H, rfl, by exact zD, by rw [tb_false (fun q => h2 (q i (by omega)))], rfl⟩
    · (refine zG ?_)
      refine ⟨by omega, by (repeat first | exact trivial | refine And.intro rfl ?_), by exact zD, fun q hq => ?_⟩
      by_cases e : q = i
      · subst e; exact h2
      · exact hJ q (by omega)
  · have : i = 8 := by omega
    subst this
    (refine zG ?_)
    exact ⟨_, H, rfl, by exact zD, by rw [tb_true hJ], rfl⟩
end Go.Proofs.YtmkegkpabifpfaaGreat
