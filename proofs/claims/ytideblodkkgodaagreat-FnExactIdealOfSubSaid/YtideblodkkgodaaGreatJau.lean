/- Contracts of the program's functions. -/
import Derived.Test.YtideblodkkgodaaGreatJam
import Derived.Test.YtideblodkkgodaaGreatJal
import Derived.Test.YtideblodkkgodaaGreatJas
import Derived.Test.YtideblodkkgodaaGreatJat
set_option linter.unusedSectionVars false
set_option linter.unusedVariables false
set_option linter.unusedSimpArgs false

namespace Go.Proofs.YtideblodkkgodaaGreat

open Go.V

variable [BW]

set_option linter.unusedSimpArgs false

set_option linter.unusedVariables false

set_option maxHeartbeats 4000000

/-- spec.l01Table -/
def ir76 : Cd := (.seq (.reg [⟨some 5,none,.box 36 (.t 2)⟩,⟨some 6,none,.mov (.c (.bool false))⟩]) (.seq (.seq (.reg [⟨some 7,none,.mov (.c (.int .i64 0))⟩]) (.block 0 (.loop (.seq (.seq (.reg [⟨some 8,none,.mov (.t 7)⟩,⟨some 9,none,.bin .lss (.t 8) (.c (.int .i64 8))⟩]) (.cond (.t 9) .skip (.exit 0))) (.seq (.block 1 (.seq (.reg [⟨some 12,none,.mov (.t 0)⟩,⟨some 13,none,.mov (.t 1)⟩,⟨some 14,none,.mov (.t 7)⟩,⟨some 15,none,.ia 8 64 (.t 5) (.t 14)⟩,⟨some 16,none,.ld (some 64) (.t 15)⟩,⟨some 17,none,.call 77 [(.t 12),(.t 13),(.t 16)]⟩,⟨some 18,none,.un .not (.t 17)⟩,⟨some 19,none,.mov (.t 18)⟩,⟨some 20,(some (19,false)),.mov (.t 7)⟩,⟨some 21,(some (19,false)),.mov (.t 1)⟩,⟨some 22,(some (19,false)),.bin .geq (.t 20) (.t 21)⟩,⟨some 23,(some (19,false)),.mov (.t 22)⟩,⟨some 24,(some (23,true)),.mov (.t 7)⟩,⟨some 25,(some (23,true)),.ia 8 64 (.t 5) (.t 24)⟩,⟨some 26,(some (23,true)),.ld (some 64) (.t 25)⟩,⟨some 27,(some (23,true)),.build 64 [(64,(.int .u8 0))] []⟩,⟨some 28,(some (23,true)),.eqa true 64 (.t 26) (.t 27)⟩,⟨some 29,(some (19,false)),.pick (.t 23) (.t 28) (.c (.bool false))⟩,⟨some 30,none,.pick (.t 19) (.c (.bool true)) (.t 29)⟩]) (.cond (.t 30) (.seq (.reg [⟨some 6,none,.mov (.c (.bool false))⟩]) .ret) .skip))) (.reg [⟨some 10,none,.mov (.t 7)⟩,⟨some 11,none,.bin .add (.t 10) (.c (.int .i64 1))⟩,⟨some 7,none,.mov (.t 11)⟩])))))) (.seq (.reg [⟨some 6,none,.mov (.c (.bool true))⟩]) .ret)))

set_option maxRecDepth 100000 in
theorem tr76 : trFn Tryz.prog Tryz.f76 = some (31, ir76, [.tmp 6]) := by kernel_rfl

theorem spec_l01Table (p n' : Int) (t : Nat → Int) (H : Hp) (n : Nat) (ht : isBy 512 t) :
    FnS Tryz.prog 76 [i64 p, i64 n', .arr 512 (bys t)] H n (fun r H' _ => r = bl (tb (isTab p n' t)) ∧ H' = H) := by
  have hk : ∀ i, i < 512 → bys t (0 + i) = .int .u8 (t i) := fun i _ => by rw [Nat.zero_add]; rfl
  refine FnS.of_body Tryz.func76 tr76 (by simp) (fun hf => ?_)
  dsimp only [argEnv]
  unfold ir76
  (refine zG ?_)
  refine CS.iter 8 (fun i => [(7, i64 i), (5, ptr n 0), (0, i64 p), (1, i64 n')]) (fun _ => (n, ⟨512, bys t, 36⟩) :: H) (fun i => ∀ j : Nat, j < i → isLin p n' n' (fun x => t (64 * j + x)) ∧ (n' ≤ j → ∀ x, x < 64 → t (64 * j + x) = 0)) (by (repeat first | exact trivial | refine And.intro rfl ?_)) (Drops.refl _ _) (fun j hj => by omega) ?_
  intro i n1 hi hn hJ
  (refine zG ?_)
  refine zI ?_ ?_<;>intro h1
  · (refine zG ?_)
    refine RS.call rfl ((spec_l01Linear p n' (fun x => t (64 * i + x)) _ _ (fun x hx => ht _ (by omega))).mono ?_)
    rintro r H' n2 hn2 ⟨rfl, rfl⟩
    (refine zG ?_)
    refine RS.sp (t := 19) rfl (fun h2 => ?_) (fun h2 => ?_) <;> (try simp only [tb_eq, tb_eqF, decide_eq_true_eq, decide_eq_false_iff_not, beq_iff_eq, bne_iff_ne, ne_eq, Decidable.not_not, beq_eq_false_iff_ne, bne_eq_false_iff_eq, Bool.not_eq_true', Bool.not_eq_false', Bool.not_eq_eq_eq_not, Bool.not_true, Bool.not_false] at h2)
    · (refine zG ?_)
      exact ⟨_, H, rfl, by exact zD, by rw [tb_false (fun h => h2 (h i (by omega)).1)], rfl⟩
    · (refine zG ?_)
      refine RS.sp (t := 23) rfl (fun h3 => ?_) (fun h3 => ?_) <;> (try simp only [tb_eq, tb_eqF, decide_eq_true_eq, decide_eq_false_iff_not, beq_iff_eq, bne_iff_ne, ne_eq, Decidable.not_not, beq_eq_false_iff_ne, bne_eq_false_iff_eq, Bool.not_eq_true', Bool.not_eq_false', Bool.not_eq_eq_eq_not, Bool.not_true, Bool.not_false] at h3)
      · (refine zG ?_)
        refine zI ?_ ?_<;>intro h4
        · (refine zG ?_)
          exact ⟨_, H, rfl, by exact zD, by rw [tb_false (fun h => h4 (fun x hx => (h i (by omega)).2 (by omega) x hx))], rfl⟩
        · (refine zG ?_)
          refine ⟨by omega, by (repeat first | exact trivial | refine And.intro rfl ?_), by exact zD, fun j hj => ?_⟩
          by_cases e : j < i
          · exact hJ j e
          · have : j = i := by omega
            subst this; exact ⟨h2, fun _ => h4⟩
      · (refine zG ?_)
        refine ⟨by omega, by (repeat first | exact trivial | refine And.intro rfl ?_), by exact zD, fun j hj => ?_⟩
        by_cases e : j < i
        · exact hJ j e
        · have : j = i := by omega
          subst this; exact ⟨h2, fun h => by omega⟩
  · (refine zG ?_)
    exact ⟨_, H, rfl, by exact zD, by rw [tb_true (show isTab p n' t from fun j hj => hJ j (by omega))], rfl⟩

/-- (impl.field).times -/
def ir124 : Cd := (.seq (.reg [⟨some 3,none,.box 62 (.t 0)⟩,⟨some 5,none,.box 32 (.t 2)⟩,⟨some 6,none,.new 32 [(8,(.int .u8 0))]⟩]) (.seq (.reg [⟨some 8,none,.build 8 [(8,(.int .u8 0))] []⟩,⟨some 7,none,.new 32 [(8,(.int .u8 0))]⟩,⟨none,none,.st 8 (.t 7) (.t 8)⟩]) (.seq (.reg [⟨some 9,none,.ld (some 2) (.t 3)⟩,⟨some 10,none,.mov (.t 1)⟩,⟨some 11,none,.ld (some 8) (.t 5)⟩,⟨some 12,none,.call 30 [(.t 9),(.t 7),(.t 10),(.t 11)]⟩]) (.seq (.reg [⟨some 13,none,.ld (some 8) (.t 7)⟩,⟨none,none,.st 8 (.t 6) (.t 13)⟩]) .ret))))

set_option maxRecDepth 100000 in
theorem tr124 : trFn Tryz.prog Tryz.f124 = some (14, ir124, [.cell (some 8) 6]) := by kernel_rfl

theorem field_times (p n' k : Int) (w : Nat → Int) (H : Hp) (n : Nat) (hp : 2 ≤ p ∧ p ≤ 31) (hw : isBy 8 w) (hk : 0 ≤ k ∧ k ≤ 100000) :
    FnS Tryz.prog 124 [fld p n', i64 k, .arr 8 (bys w)] H n (fun r H' _ => r = .arr 8 (bys (pl p (fun _ => 0) k w)) ∧ H' = H) := by
  refine FnS.of_body Tryz.func124 tr124 (by simp) (fun hf => ?_)
  dsimp only [argEnv]
  unfold ir124
  (refine zG ?_)
  refine RS.call rfl ((field_plus p n' k (fun _ => 0) w (n + 3) 0 ⟨8, fun _ => .int .u8 0, 32⟩ _ _ hp (by exact zH) (by simp) (fun _ _ => rfl) (isRes_zero hp.1 8) hw hk).mono ?_)
  rintro r H' n2 hn2 ⟨rfl, rfl⟩
  simp (disch := omega) only [Hp.set_eq, Hp.set_ne]
  (refine zG ?_)
  exact ⟨.arr 8 (bys (pl p (fun _ => 0) k w)), H, conc_arr (fun q hq => by simp only [Nat.zero_add]; exact splice_all _ _ _ _ hq), by exact zD, rfl, rfl⟩

/-- spec.l01Apply -/
def ir46 : Cd := (.seq (.reg [⟨some 6,none,.box 34 (.t 2)⟩,⟨some 7,none,.box 32 (.t 3)⟩,⟨some 8,none,.new 32 [(8,(.int .u8 0))]⟩]) (.seq (.reg [⟨some 11,none,.build 8 [(8,(.int .u8 0))] []⟩,⟨some 9,none,.new 32 [(8,(.int .u8 0))]⟩,⟨none,none,.st 8 (.t 9) (.t 11)⟩]) (.seq (.seq (.reg [⟨some 10,none,.mov (.c (.int .i64 0))⟩]) (.block 0 (.loop (.seq (.seq (.reg [⟨some 12,none,.mov (.t 10)⟩,⟨some 13,none,.mov (.t 1)⟩,⟨some 14,none,.bin .lss (.t 12) (.t 13)⟩]) (.cond (.t 14) .skip (.exit 0))) (.seq (.block 1 (.seq (.reg [⟨some 17,none,.mov (.t 10)⟩,⟨some 18,none,.ia 8 1 (.t 7) (.t 17)⟩,⟨some 19,none,.ld none (.t 18)⟩,⟨some 20,none,.bin .neq (.t 19) (.c (.int .u8 0))⟩]) (.cond (.t 20) (.drw true [9,10] [⟨some 21,none,.mov (.t 0)⟩,⟨some 22,none,.ld (some 8) (.t 9)⟩,⟨some 23,none,.mov (.t 10)⟩,⟨some 24,none,.ia 8 8 (.t 6) (.t 23)⟩,⟨some 25,none,.ld (some 8) (.t 24)⟩,⟨some 26,none,.mov (.t 10)⟩,⟨some 27,none,.ia 8 1 (.t 7) (.t 26)⟩,⟨some 28,none,.ld none (.t 27)⟩,⟨some 29,none,.cv .i64 (.t 28)⟩,⟨some 30,none,.call 42 [(.t 21),(.t 22),(.t 25),(.t 29)]⟩,⟨none,none,.st 8 (.t 9) (.t 30)⟩]) .skip))) (.reg [⟨some 15,none,.mov (.t 10)⟩,⟨some 16,none,.bin .add (.t 15) (.c (.int .i64 1))⟩,⟨some 10,none,.mov (.t 16)⟩])))))) (.seq (.reg [⟨some 31,none,.ld (some 8) (.t 9)⟩,⟨none,none,.st 8 (.t 8) (.t 31)⟩]) .ret))))

set_option maxRecDepth 100000 in
theorem tr46 : trFn Tryz.prog Tryz.f46 = some (32, ir46, [.cell (some 8) 8]) := by kernel_rfl

theorem spec_l01Apply (p : Int) (m : Nat) (l v : Nat → Int) (H : Hp) (n : Nat) (hp : 2 ≤ p ∧ p ≤ 31) (hm : m ≤ 8) (hl : isBy 64 l) (hv : isBy 8 v) :
    FnS Tryz.prog 46 [i64 p, i64 m, .arr 64 (bys l), .arr 8 (bys v)] H n (fun r H' _ => r = .arr 8 (bys (apk p l v m)) ∧ H' = H) := by
  refine FnS.of_body Tryz.func46 tr46 (by simp) (fun hf => ?_)
  dsimp only [argEnv]
  unfold ir46
  (refine zG ?_)
  refine CS.iter m (fun i => [(10, i64 i), (0, i64 p), (1, i64 m), (6, ptr n 0), (7, ptr (n + 1) 0), (8, ptr (n + 2) 0), (9, ptr (n + 3) 0)])
    (fun i => (n + 3, ⟨8, bys (apk p l v i), 32⟩) :: (n + 2, ⟨8, bys (fun _ => 0), 32⟩) :: (n + 1, ⟨8, bys v, 32⟩) :: (n, ⟨64, bys l, 34⟩) :: H) (fun _ => True) (by (repeat first | exact trivial | refine And.intro rfl ?_))
    (Drops.keepc rfl rfl (fun _ _ => by rw [apk_zero]; rfl) (Drops.keepc rfl rfl (fun _ _ => rfl) (Drops.refl _ _))) trivial ?_
  intro i n1 hi hn _
  (refine zG ?_)
  refine zI ?_ ?_<;>intro h1
  · have hvi := hv i (by omega)
    (refine zG ?_)
    refine zI ?_ ?_<;>intro h2
    · (repeat first|refine zG ?_|(refine LS.nilO ?_;intro nq hnq hltq;try refine zU ?_)|(refine MS.new ?_;intro bq hbq hbqf;try refine zU ?_)|(refine MS.nil ?_;intro nq hnq hltq;have hlq:=hltq _ _ (Hp.get_eq _ _ _);clear hltq;try refine zU ?_)|(refine LS.nilQ ?_;try with_reducible intro nq hnq;try refine zU ?_))
      refine RS.call rfl ((spec_l01Add p (v i) (apk p l v i) (fun x => l (8 * i + x)) _ _ hp (fun q hq => by have := apk_res hp.1 l v i 8 q hq; omega) (fun x hx => hl _ (by omega)) (by omega)).mono ?_)
      rintro r H' n2 hn2 ⟨rfl, rfl⟩
      (refine zG ?_)
      exact ⟨by omega, by (repeat first | exact trivial | refine And.intro rfl ?_), Drops.keepc rfl rfl (fun q hq => by rw [apk_step]) (Drops.refl _ _), trivial⟩
    · (refine zG ?_)
      exact ⟨by omega, by (repeat first | exact trivial | refine And.intro rfl ?_), by rw [apk_same h2]; exact Drops.refl _ _, trivial⟩
  · have : i = m := by omega
    subst this
    (refine zG ?_)
    exact ⟨.arr 8 (bys (apk p l v i)), H, conc_arr (fun q hq => by simp only [Nat.zero_add]), by exact zD, rfl, rfl⟩

/-- spec.l02Counits -/
def ir135 : Cd := (.seq (.reg [⟨some 1,none,.box 122 (.t 0)⟩,⟨some 2,none,.mov (.c (.bool false))⟩]) (.seq (.seq (.reg [⟨some 3,none,.mov (.c (.int .i64 0))⟩]) (.block 0 (.loop (.seq (.seq (.reg [⟨some 9,none,.mov (.t 3)⟩,⟨some 10,none,.fa 1 (.t 1)⟩,⟨some 11,none,.ld none (.t 10)⟩,⟨some 12,none,.bin .lss (.t 9) (.t 11)⟩]) (.cond (.t 12) .skip (.exit 0))) (.seq (.block 1 (.seq (.reg [⟨some 15,none,.build 8 [(8,(.int .u8 0))] []⟩,⟨some 16,none,.build 8 [(8,(.int .u8 0))] []⟩,⟨some 4,none,.new 32 [(8,(.int .u8 0))]⟩,⟨some 5,none,.new 32 [(8,(.int .u8 0))]⟩,⟨none,none,.st 8 (.t 4) (.t 15)⟩,⟨none,none,.st 8 (.t 5) (.t 16)⟩]) (.seq (.seq (.reg [⟨some 6,none,.mov (.c (.int .i64 0))⟩]) (.block 2 (.loop (.seq (.seq (.reg [⟨some 17,none,.mov (.t 6)⟩,⟨some 18,none,.fa 1 (.t 1)⟩,⟨some 19,none,.ld none (.t 18)⟩,⟨some 20,none,.bin .lss (.t 17) (.t 19)⟩]) (.cond (.t 20) .skip (.exit 2))) (.seq (.block 3 (.seq (.drw true [14,15] [⟨some 23,none,.fa 0 (.t 1)⟩,⟨some 24,none,.ld none (.t 23)⟩,⟨some 25,none,.ld (some 8) (.t 4)⟩,⟨some 26,none,.mov (.t 3)⟩,⟨some 27,none,.mov (.t 6)⟩,⟨some 28,none,.fa 10 (.t 1)⟩,⟨some 29,none,.ia 8 64 (.t 28) (.t 26)⟩,⟨some 30,none,.ia 8 8 (.t 29) (.t 27)⟩,⟨some 31,none,.ld (some 8) (.t 30)⟩,⟨some 32,none,.mov (.t 6)⟩,⟨some 33,none,.fa 2 (.t 1)⟩,⟨some 34,none,.ia 8 1 (.t 33) (.t 32)⟩,⟨some 35,none,.ld none (.t 34)⟩,⟨some 36,none,.cv .i64 (.t 35)⟩,⟨some 37,none,.call 42 [(.t 24),(.t 25),(.t 31),(.t 36)]⟩,⟨none,none,.st 8 (.t 4) (.t 37)⟩]) (.seq (.reg [⟨some 7,none,.mov (.c (.int .i64 0))⟩]) (.seq (.seq (.reg [⟨some 8,none,.mov (.c (.int .i64 0))⟩]) (.block 4 (.loop (.seq (.seq (.reg [⟨some 38,none,.mov (.t 8)⟩,⟨some 39,none,.fa 1 (.t 1)⟩,⟨some 40,none,.ld none (.t 39)⟩,⟨some 41,none,.bin .lss (.t 38) (.t 40)⟩]) (.cond (.t 41) .skip (.exit 4))) (.seq (.block 5 (.drw true [] [⟨some 44,none,.mov (.t 7)⟩,⟨some 45,none,.mov (.t 8)⟩,⟨some 46,none,.fa 2 (.t 1)⟩,⟨some 47,none,.ia 8 1 (.t 46) (.t 45)⟩,⟨some 48,none,.ld none (.t 47)⟩,⟨some 49,none,.cv .i64 (.t 48)⟩,⟨some 50,none,.mov (.t 3)⟩,⟨some 51,none,.mov (.t 6)⟩,⟨some 52,none,.mov (.t 8)⟩,⟨some 53,none,.fa 10 (.t 1)⟩,⟨some 54,none,.ia 8 64 (.t 53) (.t 50)⟩,⟨some 55,none,.ia 8 8 (.t 54) (.t 51)⟩,⟨some 56,none,.ia 8 1 (.t 55) (.t 52)⟩,⟨some 57,none,.ld none (.t 56)⟩,⟨some 58,none,.cv .i64 (.t 57)⟩,⟨some 59,none,.bin .mul (.t 49) (.t 58)⟩,⟨some 60,none,.bin .add (.t 44) (.t 59)⟩,⟨some 7,none,.mov (.t 60)⟩])) (.reg [⟨some 42,none,.mov (.t 8)⟩,⟨some 43,none,.bin .add (.t 42) (.c (.int .i64 1))⟩,⟨some 8,none,.mov (.t 43)⟩])))))) (.reg [⟨some 61,none,.mov (.t 6)⟩,⟨some 62,none,.fa 0 (.t 1)⟩,⟨some 63,none,.ld none (.t 62)⟩,⟨some 64,none,.mov (.t 7)⟩,⟨some 65,none,.call 61 [(.t 63),(.t 64)]⟩,⟨some 66,none,.ia 8 1 (.t 5) (.t 61)⟩,⟨none,none,.st 1 (.t 66) (.t 65)⟩]))))) (.reg [⟨some 21,none,.mov (.t 6)⟩,⟨some 22,none,.bin .add (.t 21) (.c (.int .i64 1))⟩,⟨some 6,none,.mov (.t 22)⟩])))))) (.seq (.drw true [] [⟨some 67,none,.ld (some 8) (.t 4)⟩,⟨some 68,none,.mov (.t 3)⟩,⟨some 69,none,.call 21 [(.t 68)]⟩,⟨some 70,none,.eqa true 8 (.t 67) (.t 69)⟩,⟨some 71,none,.mov (.t 70)⟩,⟨some 72,(some (71,false)),.ld (some 8) (.t 5)⟩,⟨some 73,(some (71,false)),.mov (.t 3)⟩,⟨some 74,(some (71,false)),.call 21 [(.t 73)]⟩,⟨some 75,(some (71,false)),.eqa true 8 (.t 72) (.t 74)⟩,⟨some 76,none,.pick (.t 71) (.c (.bool true)) (.t 75)⟩]) (.cond (.t 76) (.seq (.reg [⟨some 2,none,.mov (.c (.bool false))⟩]) .ret) .skip))))) (.reg [⟨some 13,none,.mov (.t 3)⟩,⟨some 14,none,.bin .add (.t 13) (.c (.int .i64 1))⟩,⟨some 3,none,.mov (.t 14)⟩])))))) (.seq (.reg [⟨some 2,none,.mov (.c (.bool true))⟩]) .ret)))

set_option maxRecDepth 100000 in
theorem tr135 : trFn Tryz.prog Tryz.f135 = some (77, ir135, [.tmp 2]) := by kernel_rfl

theorem spec_l02Counits (p : Int) (a : Nat) (e c : Nat → Int) (K : Nat → SV) (H : Hp) (n : Nat) (hp : 2 ≤ p ∧ p ≤ 31) (ha : a ≤ 8)
    (h0 : K 0 = .int .i64 p) (h1 : K 1 = .int .i64 a) (hE : ∀ q, q < 8 → K (2 + q) = .int .u8 (e q)) (hK : ∀ q, q < 512 → K (10 + q) = .int .u8 (c q)) (he : isBy 8 e) (hc : isBy 512 c) (hz : vz a e) :
    FnS Tryz.prog 135 [.arr 522 K] H n (fun r H' _ => r = bl (tb (counits p a e c)) ∧ H' = H) := by
  refine FnS.of_body Tryz.func135 tr135 (by simp) (fun hf => ?_)
  dsimp only [argEnv]
  unfold ir135
  (refine zG ?_)
  refine CS.iter a (fun i => [(3, i64 i), (1, ptr n 0)]) (fun _ => (n, ⟨522, K, 122⟩) :: H)
    (fun i => ∀ i' : Nat, i' < i → (∀ q, q < 8 → coL p e c i' a q = bas i' q) ∧ (∀ q, q < 8 → coR p e c i' a q = bas i' q)) (by (repeat first | exact trivial | refine And.intro rfl ?_)) (by exact zD) (fun _ h => by omega) ?_
  intro i n3 hi hn hJ
  (refine zG ?_)
  refine zI ?_ ?_<;>intro h2
  · (refine zG ?_)
    refine CS.iter a (fun j => [(6, i64 j), (4, ptr n3 0), (5, ptr (n3 + 1) 0), (3, i64 i), (1, ptr n 0)])
      (fun j => (n3 + 1, ⟨8, bys (coR p e c i j), 32⟩) :: (n3, ⟨8, bys (coL p e c i j), 32⟩) :: (n, ⟨522, K, 122⟩) :: H) (fun _ => True) (by (repeat first | exact trivial | refine And.intro rfl ?_))
      (Drops.keepc rfl rfl (fun _ _ => by rw [coR_zero]; rfl) (Drops.keepc rfl rfl (fun _ _ => by rw [coL_zero]; rfl) (Drops.refl _ _))) trivial ?_
    intro j n4 hj hn4 _
    (refine zG ?_)
    refine zI ?_ ?_<;>intro h3
    · have hej := he j (by omega)
      (repeat first|refine zG ?_|(refine LS.nilO ?_;intro nq hnq hltq;try refine zU ?_)|(refine MS.new ?_;intro bq hbq hbqf;try refine zU ?_)|(refine MS.nil ?_;intro nq hnq hltq;have hlq:=hltq _ _ (Hp.get_eq _ _ _);clear hltq;try refine zU ?_)|(refine LS.nilQ ?_;try with_reducible intro nq hnq;try refine zU ?_))
      refine RS.call rfl ((spec_l01Add p (e j) (coL p e c i j) (fun x => c (64 * i + 8 * j + x)) _ _ hp (fun q hq => by have := coL_res hp.1 e c i j 8 q hq; omega) (fun x hx => hc _ (by omega)) (by omega)).mono ?_)
      rintro r H n5 hn5 ⟨rfl, rfl⟩
      (refine zG ?_)
      refine CS.iter a (fun k => [(8, i64 k), (7, i64 (sm (fun y => e y * c (64 * i + 8 * j + y)) k)), (6, i64 j), (4, ptr n3 0), (5, ptr (n3 + 1) 0), (3, i64 i), (1, ptr n 0)])
        (fun _ => (n3 + 1, ⟨8, bys (coR p e c i j), 32⟩) :: (n3, ⟨8, bys (coL p e c i (j + 1)), 32⟩) :: (n, ⟨522, K, 122⟩) :: H) (fun _ => True) (by (repeat first | exact trivial | refine And.intro rfl ?_))
        (Drops.keepc rfl rfl (fun _ _ => rfl) (Drops.keepc rfl rfl (fun q hq => by rw [coL_step]) (Drops.refl _ _))) trivial ?_
      intro k n6 hk hn6 _
      have hs := sm_b (f := fun y => e y * c (64 * i + 8 * j + y)) (B := 65025) (n := k) (fun q hq => by
        have h1 := he q (by omega)
        have h2 := hc (64 * i + 8 * j + q) (by omega)
        exact mulB h1.1 h1.2 h2.1 h2.2)
      (refine zG ?_)
      refine zI ?_ ?_<;>intro h4
      · have hek := he k (by omega)
        have hck := hc (64 * i + 8 * j + k) (by omega)
        have hm := mulB hek.1 hek.2 hck.1 hck.2
        (repeat first|refine zG ?_|(refine LS.nilO ?_;intro nq hnq hltq;try refine zU ?_)|(refine MS.new ?_;intro bq hbq hbqf;try refine zU ?_)|(refine MS.nil ?_;intro nq hnq hltq;have hlq:=hltq _ _ (Hp.get_eq _ _ _);clear hltq;try refine zU ?_)|(refine LS.nilQ ?_;try with_reducible intro nq hnq;try refine zU ?_))
        exact ⟨by omega, by (repeat first | exact trivial | refine And.intro rfl ?_), Drops.refl _ _, trivial⟩
      · have : k = a := by omega
        subst this
        (refine zG ?_)
        refine RS.call rfl ((spec_l01Mod p (sm (fun y => e y * c (64 * i + 8 * j + y)) k) _ _ hp.1 hp.2 (by omega)).mono ?_)
        rintro r H n7 hn7 ⟨rfl, rfl⟩
        (refine zG ?_)
        refine ⟨by omega, by (repeat first | exact trivial | refine And.intro rfl ?_), Drops.keepc rfl rfl (fun q hq => ?_) (Drops.refl _ _), trivial⟩
        simp only [put1, bys]
        rw [← coR_step, ← dotk_end (show k ≤ 8 by omega) (.inl hz)]
        split <;> rfl
    · have : j = a := by omega
      subst this
      (refine zG ?_)
      refine LS.callQ (.arr 8 (bys (bas i))) rfl (fun n' hn' => spec_l01Basis i _ _ (by omega)) ?_
      (refine zG ?_)
      refine RS.sp (t := 71) rfl (fun h4 => ?_) (fun h4 => ?_) <;> (try simp only [tb_eq, tb_eqF, decide_eq_true_eq, decide_eq_false_iff_not, beq_iff_eq, bne_iff_ne, ne_eq, Decidable.not_not, beq_eq_false_iff_ne, bne_eq_false_iff_eq, Bool.not_eq_true', Bool.not_eq_false', Bool.not_eq_eq_eq_not, Bool.not_true, Bool.not_false] at h4)
      · (repeat first|refine zG ?_|(refine LS.nilO ?_;intro nq hnq hltq;try refine zU ?_)|(refine MS.new ?_;intro bq hbq hbqf;try refine zU ?_)|(refine MS.nil ?_;intro nq hnq hltq;have hlq:=hltq _ _ (Hp.get_eq _ _ _);clear hltq;try refine zU ?_)|(refine LS.nilQ ?_;try with_reducible intro nq hnq;try refine zU ?_))
        exact ⟨_, H, rfl, by exact zD, by rw [tb_false (fun h => h4 (h i (by omega)).1)], rfl⟩
      · (refine zG ?_)
        refine LS.callQ (.arr 8 (bys (bas i))) rfl (fun n' hn' => spec_l01Basis i _ _ (by omega)) ?_
        (repeat first|refine zG ?_|(refine LS.nilO ?_;intro nq hnq hltq;try refine zU ?_)|(refine MS.new ?_;intro bq hbq hbqf;try refine zU ?_)|(refine MS.nil ?_;intro nq hnq hltq;have hlq:=hltq _ _ (Hp.get_eq _ _ _);clear hltq;try refine zU ?_)|(refine LS.nilQ ?_;try with_reducible intro nq hnq;try refine zU ?_))
        refine zI ?_ ?_<;>intro h5
        · (refine zG ?_)
          exact ⟨_, H, rfl, by exact zD, by rw [tb_false (fun h => h5 (h i (by omega)).2)], rfl⟩
        · (refine zG ?_)
          refine ⟨by omega, by (repeat first | exact trivial | refine And.intro rfl ?_), by exact zD, fun i' hi' => ?_⟩
          by_cases e : i' = i
          · subst e; exact ⟨h4, h5⟩
          · exact hJ i' (by omega)
  · have : i = a := by omega
    subst this
    (refine zG ?_)
    exact ⟨_, H, rfl, by exact zD, by rw [tb_true (show counits p i e c from fun i' h => hJ i' h)], rfl⟩

/-- (*impl.Hopf).product -/
def ir32 : Cd := (.seq (.reg [⟨some 4,none,.box 32 (.t 1)⟩,⟨some 5,none,.box 32 (.t 2)⟩,⟨some 6,none,.new 32 [(8,(.int .u8 0))]⟩]) (.seq (.reg [⟨some 11,none,.mov (.t 0)⟩,⟨some 12,none,.call 28 [(.t 11)]⟩,⟨some 13,none,.build 8 [(8,(.int .u8 0))] []⟩,⟨some 7,none,.new 62 [(2,(.int .i64 0))]⟩,⟨some 8,none,.new 32 [(8,(.int .u8 0))]⟩,⟨none,none,.st 2 (.t 7) (.t 12)⟩,⟨none,none,.st 8 (.t 8) (.t 13)⟩]) (.seq (.seq (.reg [⟨some 14,none,.fa 1 (.t 7)⟩,⟨some 15,none,.ld none (.t 14)⟩,⟨some 16,none,.mov (.c (.int .i64 0))⟩]) (.block 0 (.loop (.seq (.reg [⟨some 17,none,.bin .lss (.t 16) (.t 15)⟩]) (.seq (.cond (.t 17) .skip (.exit 0)) (.seq (.block 1 (.seq (.reg [⟨some 18,none,.mov (.t 16)⟩,⟨some 9,none,.mov (.t 18)⟩]) (.seq (.seq (.reg [⟨some 19,none,.mov (.t 9)⟩,⟨some 20,none,.ia 8 1 (.t 4) (.t 19)⟩,⟨some 21,none,.ld none (.t 20)⟩,⟨some 22,none,.bin .eql (.t 21) (.c (.int .u8 0))⟩]) (.cond (.t 22) (.exit 1) .skip)) (.seq (.reg [⟨some 23,none,.fa 1 (.t 7)⟩,⟨some 24,none,.ld none (.t 23)⟩,⟨some 25,none,.mov (.c (.int .i64 0))⟩]) (.block 2 (.loop (.seq (.reg [⟨some 26,none,.bin .lss (.t 25) (.t 24)⟩]) (.seq (.cond (.t 26) .skip (.exit 2)) (.seq (.block 3 (.seq (.reg [⟨some 27,none,.mov (.t 25)⟩,⟨some 10,none,.mov (.t 27)⟩]) (.drw true [18] [⟨some 28,none,.ld (some 2) (.t 7)⟩,⟨some 29,none,.mov (.t 9)⟩,⟨some 30,none,.ia 8 1 (.t 4) (.t 29)⟩,⟨some 31,none,.ld none (.t 30)⟩,⟨some 32,none,.cv .i64 (.t 31)⟩,⟨some 33,none,.mov (.t 10)⟩,⟨some 34,none,.ia 8 1 (.t 5) (.t 33)⟩,⟨some 35,none,.ld none (.t 34)⟩,⟨some 36,none,.cv .i64 (.t 35)⟩,⟨some 37,none,.bin .mul (.t 32) (.t 36)⟩,⟨some 38,none,.mov (.t 0)⟩,⟨some 39,none,.mov (.t 9)⟩,⟨some 40,none,.mov (.t 10)⟩,⟨some 41,none,.ck (.t 38)⟩,⟨some 42,none,.fa 10 (.t 41)⟩,⟨some 43,none,.ia 8 64 (.t 42) (.t 39)⟩,⟨some 44,none,.ia 8 8 (.t 43) (.t 40)⟩,⟨some 45,none,.ld (some 8) (.t 44)⟩,⟨some 46,none,.call 30 [(.t 28),(.t 8),(.t 37),(.t 45)]⟩]))) (.reg [⟨some 47,none,.bin .add (.t 25) (.c (.int .i64 1))⟩,⟨some 25,none,.mov (.t 47)⟩])))))))))) (.reg [⟨some 48,none,.bin .add (.t 16) (.c (.int .i64 1))⟩,⟨some 16,none,.mov (.t 48)⟩]))))))) (.seq (.reg [⟨some 49,none,.ld (some 8) (.t 8)⟩,⟨none,none,.st 8 (.t 6) (.t 49)⟩]) .ret))))

set_option maxRecDepth 100000 in
theorem tr32 : trFn Tryz.prog Tryz.f32 = some (50, ir32, [.cell (some 8) 6]) := by kernel_rfl

theorem Hopf_product (h : HT) (a : Nat) (v w : Nat → Int) (b : Nat) (K : Blk) (H : Hp) (n : Nat) (hS : HS h a) (hb : H.get b = some K) (hsz : K.size = 1106) (hK : h.At K.c) (hB : h.By) (hv : isBy 8 v) (hw : isBy 8 w) :
    FnS Tryz.prog 32 [ptr b 0, .arr 8 (bys v), .arr 8 (bys w)] H n (fun r H' _ => r = .arr 8 (bys (pr h.p h.m v w a)) ∧ H' = H) := by
  have hp := hS.hp
  have ha := hS.ha
  have hk1 := hK.n
  rw [hS.hn] at hk1
  have hk5 := hK.m
  refine FnS.of_body Tryz.func32 tr32 (by simp) (fun hf => ?_)
  dsimp only [argEnv]
  unfold ir32
  have hbn := getlt hf hb
  (refine zG ?_)
  refine RS.call rfl ((Hopf_field h.p a b K _ _ (by exact zH) hsz hK.p hk1 (by omega)).mono ?_)
  rintro r H n2 hn2 ⟨rfl, rfl⟩
  (refine zG ?_)
  refine CS.iter a (fun i => [(16, i64 i), (15, i64 a), (0, ptr b 0), (4, ptr n 0), (5, ptr (n + 1) 0), (6, ptr (n + 2) 0), (7, ptr n2 0), (8, ptr (n2 + 1) 0)])
    (fun i => (n2 + 1, ⟨8, bys (pk h.p h.m v w a i 0), 32⟩) :: (n2, ⟨2, fldC h.p a, 62⟩) :: (n + 2, ⟨8, bys (fun _ => 0), 32⟩) :: (n + 1, ⟨8, bys w, 32⟩) :: (n, ⟨8, bys v, 32⟩) :: H) (fun _ => True) (by (repeat first | exact trivial | refine And.intro rfl ?_))
    (Drops.keepc rfl rfl (fun _ _ => by rw [pk_zero]; rfl) (Drops.keepc rfl rfl (fun _ _ => rfl) (Drops.keepc rfl rfl (fun _ _ => rfl) (Drops.refl _ _)))) trivial ?_
  intro i n3 hi hn _
  (refine zG ?_)
  refine zI ?_ ?_<;>intro h2
  · have hvi := hv i (by omega)
    (refine zG ?_)
    refine zI ?_ ?_<;>intro h3
    · (refine zG ?_)
      exact ⟨by omega, by (repeat first | exact trivial | refine And.intro rfl ?_), by rw [pk_skip h3]; exact Drops.refl _ _, trivial⟩
    · (refine zG ?_)
      refine CS.iter a (fun j => [(25, i64 j), (24, i64 a), (9, i64 i), (16, i64 i), (15, i64 a), (0, ptr b 0), (4, ptr n 0), (5, ptr (n + 1) 0), (6, ptr (n + 2) 0), (7, ptr n2 0), (8, ptr (n2 + 1) 0)])
        (fun j => (n2 + 1, ⟨8, bys (pk h.p h.m v w a i j), 32⟩) :: (n2, ⟨2, fldC h.p a, 62⟩) :: (n + 2, ⟨8, bys (fun _ => 0), 32⟩) :: (n + 1, ⟨8, bys w, 32⟩) :: (n, ⟨8, bys v, 32⟩) :: H) (fun _ => True) (by (repeat first | exact trivial | refine And.intro rfl ?_))
        (Drops.refl _ _) trivial ?_
      intro j n4 hj hn4 _
      (refine zG ?_)
      refine zI ?_ ?_<;>intro h4
      · have hwj := hw j (by omega)
        have hvw := mulB hvi.1 hvi.2 hwj.1 hwj.2
        (repeat first|refine zG ?_|(refine LS.nilO ?_;intro nq hnq hltq;try refine zU ?_)|(refine MS.new ?_;intro bq hbq hbqf;try refine zU ?_)|(refine MS.nil ?_;intro nq hnq hltq;have hlq:=hltq _ _ (Hp.get_eq _ _ _);clear hltq;try refine zU ?_)|(refine LS.nilQ ?_;try with_reducible intro nq hnq;try refine zU ?_))
        refine RS.call rfl ((field_plus h.p a (v i * w j) (pk h.p h.m v w a i j) (fun x => h.m (64 * i + 8 * j + x)) (n2 + 1) 0 ⟨8, bys (pk h.p h.m v w a i j), 32⟩ _ _ hp (by exact zH) (by simp) (fun _ _ => by rw [Nat.zero_add]; rfl) (pk_res hp.1 _ _ _ _ _ _ _) (hB.rowm (by omega) (by omega)) (by omega)).mono ?_)
        rintro r H' n5 hn5 ⟨rfl, rfl⟩
        simp (disch := omega) only [Hp.set_eq, Hp.set_ne]
        (refine zG ?_)
        exact ⟨by omega, by (repeat first | exact trivial | refine And.intro rfl ?_), Drops.keepc rfl rfl (fun q hq => (splice_all _ _ 8 q hq).trans (by rw [pk_step])) (Drops.refl _ _), trivial⟩
      · have : j = a := by omega
        subst this
        (refine zG ?_)
        exact ⟨by omega, by (repeat first | exact trivial | refine And.intro rfl ?_), by rw [pk_row]; exact Drops.refl _ _, trivial⟩
  · have : i = a := by omega
    subst this
    (refine zG ?_)
    exact ⟨.arr 8 (bys (pr h.p h.m v w i)), _, conc_arr (fun q hq => by first | rfl | (simp only [Nat.zero_add]; done) | (simp only [Nat.zero_add]; rfl)), by exact zD, rfl, rfl⟩

/-- laws.toTable -/
def ir23 : Cd := (.seq (.reg [⟨some 1,none,.box 24 (.t 0)⟩,⟨some 2,none,.new 36 [(512,(.int .u8 0))]⟩]) (.seq (.reg [⟨some 3,none,.new 36 [(512,(.int .u8 0))]⟩]) (.seq (.seq (.reg [⟨some 4,none,.mov (.c (.int .i64 0))⟩]) (.block 0 (.loop (.seq (.seq (.reg [⟨some 5,none,.mov (.t 4)⟩,⟨some 6,none,.bin .lss (.t 5) (.c (.int .i64 8))⟩]) (.cond (.t 6) .skip (.exit 0))) (.seq (.block 1 (.reg [⟨some 9,none,.mov (.t 4)⟩,⟨some 10,none,.mov (.t 4)⟩,⟨some 11,none,.ia 8 64 (.t 1) (.t 10)⟩,⟨some 12,none,.ld (some 64) (.t 11)⟩,⟨some 13,none,.call 24 [(.t 12)]⟩,⟨some 14,none,.ia 8 64 (.t 3) (.t 9)⟩,⟨none,none,.st 64 (.t 14) (.t 13)⟩])) (.reg [⟨some 7,none,.mov (.t 4)⟩,⟨some 8,none,.bin .add (.t 7) (.c (.int .i64 1))⟩,⟨some 4,none,.mov (.t 8)⟩])))))) (.seq (.reg [⟨some 15,none,.ld (some 512) (.t 3)⟩,⟨none,none,.st 512 (.t 2) (.t 15)⟩]) .ret))))

set_option maxRecDepth 100000 in
theorem tr23 : trFn Tryz.prog Tryz.f23 = some (16, ir23, [.cell (some 512) 2]) := by kernel_rfl

theorem laws_toTable (t : Nat → Int) (H : Hp) (n : Nat) :
    FnS Tryz.prog 23 [.arr 512 (bys t)] H n (fun r H' _ => r = .arr 512 (bys t) ∧ H' = H) := by
  refine FnS.of_body Tryz.func23 tr23 (by simp) (fun hf => ?_)
  dsimp only [argEnv]
  unfold ir23
  (refine zG ?_)
  refine CS.iter 8 (fun i => [(4, i64 i), (1, ptr n 0), (2, ptr (n + 1) 0), (3, ptr (n + 2) 0)])
    (fun i => (n + 2, ⟨512, bys (tabsTo (fun _ => 0) t i), 36⟩) :: (n + 1, ⟨512, bys (fun _ => 0), 36⟩) :: (n, ⟨512, bys t, 24⟩) :: H) (fun _ => True) (by (repeat first | exact trivial | refine And.intro rfl ?_))
    (Drops.keepc rfl rfl (fun _ _ => by rw [tabsTo_zero]; rfl) (Drops.keepc rfl rfl (fun _ _ => rfl) (Drops.refl _ _))) trivial ?_
  intro i n1 hi hn _
  (refine zG ?_)
  refine zI ?_ ?_<;>intro h1
  · have hr : ∀ q, q < 64 → (bys t) (64 * i + q) = .int .u8 (t (64 * i + q)) := fun q hq => rfl
    (refine zG ?_)
    refine RS.call rfl ((laws_toLinear (fun x => t (64 * i + x)) _ _).mono ?_)
    rintro r H' n2 hn2 ⟨rfl, rfl⟩
    (refine zG ?_)
    exact ⟨by omega, by (repeat first | exact trivial | refine And.intro rfl ?_), Drops.keepc rfl rfl (fun q hq => tabsTo_step (fun y hy => rfl) q) (Drops.refl _ _), trivial⟩
  · have : i = 8 := by omega
    subst this
    (refine zG ?_)
    exact ⟨.arr 512 (bys t), H, conc_arr (fun q hq => by simp only [Nat.zero_add, bys, tabsTo]; rw [if_pos (by omega)]), by exact zD, rfl, rfl⟩

end Go.Proofs.YtideblodkkgodaaGreat
