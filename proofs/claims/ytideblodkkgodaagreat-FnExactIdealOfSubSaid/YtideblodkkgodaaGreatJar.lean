/- Contracts of the program's functions. -/
import Derived.Test.YtideblodkkgodaaGreatJam
import Derived.Test.YtideblodkkgodaaGreatJal
import Derived.Test.YtideblodkkgodaaGreatJao
import Derived.Test.YtideblodkkgodaaGreatJap
import Derived.Test.YtideblodkkgodaaGreatJaq
set_option linter.unusedSectionVars false
set_option linter.unusedVariables false
set_option linter.unusedSimpArgs false

namespace Go.Proofs.YtideblodkkgodaaGreat

open Go.V

variable [BW]

set_option linter.unusedSimpArgs false

set_option linter.unusedVariables false

set_option maxHeartbeats 4000000

/-- impl.IsVector -/
def ir66 : Cd := (.seq (.reg [⟨some 5,none,.box 32 (.t 2)⟩,⟨some 6,none,.mov (.c (.bool false))⟩]) (.seq (.seq (.reg [⟨some 9,none,.mov (.t 0)⟩,⟨some 10,none,.call 97 [(.t 9)]⟩,⟨some 11,none,.un .not (.t 10)⟩,⟨some 12,none,.mov (.t 11)⟩,⟨some 13,(some (12,false)),.mov (.t 1)⟩,⟨some 14,(some (12,false)),.call 98 [(.t 13),(.c (.int .i64 1)),(.c (.int .i64 8))]⟩,⟨some 15,(some (12,false)),.un .not (.t 14)⟩,⟨some 16,none,.pick (.t 12) (.c (.bool true)) (.t 15)⟩]) (.cond (.t 16) (.seq (.reg [⟨some 6,none,.mov (.c (.bool false))⟩]) .ret) .skip)) (.seq (.seq (.reg [⟨some 17,none,.ld (some 8) (.t 5)⟩,⟨some 18,none,.mov (.c (.int .i64 0))⟩]) (.block 0 (.loop (.seq (.reg [⟨some 19,none,.bin .lss (.t 18) (.c (.int .i64 8))⟩]) (.seq (.cond (.t 19) .skip (.exit 0)) (.seq (.block 1 (.seq (.reg [⟨some 20,none,.mov (.t 18)⟩,⟨some 21,none,.ix 8 1 none (.t 17) (.t 18)⟩,⟨some 7,none,.mov (.t 20)⟩,⟨some 8,none,.mov (.t 21)⟩]) (.seq (.reg [⟨some 22,none,.mov (.t 8)⟩,⟨some 23,none,.cv .i64 (.t 22)⟩,⟨some 24,none,.mov (.t 0)⟩,⟨some 25,none,.bin .geq (.t 23) (.t 24)⟩,⟨some 26,none,.mov (.t 25)⟩,⟨some 27,(some (26,false)),.mov (.t 7)⟩,⟨some 28,(some (26,false)),.mov (.t 1)⟩,⟨some 29,(some (26,false)),.bin .geq (.t 27) (.t 28)⟩,⟨some 30,(some (26,false)),.mov (.t 29)⟩,⟨some 31,(some (30,true)),.mov (.t 8)⟩,⟨some 32,(some (30,true)),.bin .neq (.t 31) (.c (.int .u8 0))⟩,⟨some 33,(some (26,false)),.pick (.t 30) (.t 32) (.c (.bool false))⟩,⟨some 34,none,.pick (.t 26) (.c (.bool true)) (.t 33)⟩]) (.cond (.t 34) (.seq (.reg [⟨some 6,none,.mov (.c (.bool false))⟩]) .ret) .skip)))) (.reg [⟨some 35,none,.bin .add (.t 18) (.c (.int .i64 1))⟩,⟨some 18,none,.mov (.t 35)⟩]))))))) (.seq (.reg [⟨some 6,none,.mov (.c (.bool true))⟩]) .ret))))

set_option maxRecDepth 100000 in
theorem tr66 : trFn Tryz.prog Tryz.f66 = some (36, ir66, [.tmp 6]) := by kernel_rfl

theorem impl_IsVector (p n' : Int) (v : Nat → Int) (H : Hp) (n : Nat) (hv : isBy 8 v) :
    FnS Tryz.prog 66 [i64 p, i64 n', .arr 8 (bys v)] H n (fun r H' _ => r = bl (tb (sz p n' ∧ isVec p n' v)) ∧ H' = H) := by
  refine FnS.of_body Tryz.func66 tr66 (by simp) (fun hf => ?_)
  dsimp only [argEnv]
  unfold ir66
  (refine zG ?_)
  refine RS.call rfl ((impl_IsPrime _ _ _).mono ?_)
  rintro r H' n2 hn2 ⟨rfl, rfl⟩
  (refine zG ?_)
  refine RS.sp (t := 12) rfl (fun h1 => ?_) (fun h1 => ?_) <;> (try simp only [tb_eq, tb_eqF, decide_eq_true_eq, decide_eq_false_iff_not, beq_iff_eq, bne_iff_ne, ne_eq, Decidable.not_not, beq_eq_false_iff_ne, bne_eq_false_iff_eq, Bool.not_eq_true', Bool.not_eq_false', Bool.not_eq_eq_eq_not, Bool.not_true, Bool.not_false] at h1)
  · (refine zG ?_)
    exact ⟨_, H, rfl, by exact zD, by rw [tb_false (fun h => by simp [h.1.1] at h1)], rfl⟩
  · (refine zG ?_)
    refine RS.call rfl ((impl_in _ _ _ _ _).mono ?_)
    rintro r H' n3 hn3 ⟨rfl, rfl⟩
    (refine zG ?_)
    refine zI ?_ ?_<;>intro h2
    · (refine zG ?_)
      exact ⟨_, H, rfl, by exact zD, by rw [tb_false (fun h => by simp [h.1.2] at h2)], rfl⟩
    · have h2 : 1 ≤ n' ∧ n' ≤ 8 := by simpa using h2
      (refine zG ?_)
      refine CS.iter 8 (fun i => [(18, i64 i), (17, .arr 8 (bys v)), (0, i64 p), (1, i64 n')]) (fun _ => (n, ⟨8, bys v, 32⟩) :: H) (fun i => ∀ j : Nat, j < i → v j < p ∧ (n' ≤ j → v j = 0)) (by (repeat first | exact trivial | refine And.intro rfl ?_)) (Drops.refl _ _) (fun j hj => by omega) ?_
      intro i n4 hi hn4 hJ
      (refine zG ?_)
      refine zI ?_ ?_<;>intro h3
      · have hvi := hv i (by omega)
        (refine zG ?_)
        refine RS.sp (t := 26) rfl (fun h4 => ?_) (fun h4 => ?_) <;> (try simp only [tb_eq, tb_eqF, decide_eq_true_eq, decide_eq_false_iff_not, beq_iff_eq, bne_iff_ne, ne_eq, Decidable.not_not, beq_eq_false_iff_ne, bne_eq_false_iff_eq, Bool.not_eq_true', Bool.not_eq_false', Bool.not_eq_eq_eq_not, Bool.not_true, Bool.not_false] at h4)
        · (refine zG ?_)
          exact ⟨_, H, rfl, by exact zD, by rw [tb_false (fun h => by have := (h.2 i (by omega)).1; omega)], rfl⟩
        · (refine zG ?_)
          refine RS.sp (t := 30) rfl (fun h5 => ?_) (fun h5 => ?_) <;> (try simp only [tb_eq, tb_eqF, decide_eq_true_eq, decide_eq_false_iff_not, beq_iff_eq, bne_iff_ne, ne_eq, Decidable.not_not, beq_eq_false_iff_ne, bne_eq_false_iff_eq, Bool.not_eq_true', Bool.not_eq_false', Bool.not_eq_eq_eq_not, Bool.not_true, Bool.not_false] at h5)
          · (refine zG ?_)
            refine zI ?_ ?_<;>intro h6
            · (refine zG ?_)
              exact ⟨_, H, rfl, by exact zD, by rw [tb_false (fun h => h6 ((h.2 i (by omega)).2 (by omega)))], rfl⟩
            · (refine zG ?_)
              refine ⟨by omega, by (repeat first | exact trivial | refine And.intro rfl ?_), by exact zD, fun j hj => ?_⟩
              by_cases e : j < i
              · exact hJ j e
              · have : j = i := by omega
                subst this; exact ⟨by omega, fun _ => h6⟩
          · (refine zG ?_)
            refine ⟨by omega, by (repeat first | exact trivial | refine And.intro rfl ?_), by exact zD, fun j hj => ?_⟩
            by_cases e : j < i
            · exact hJ j e
            · have : j = i := by omega
              subst this; exact ⟨by omega, fun h => by omega⟩
      · (refine zG ?_)
        exact ⟨_, H, rfl, by exact zD, by rw [tb_true ⟨⟨h1, h2⟩, fun j hj => hJ j (by omega)⟩], rfl⟩

/-- (*impl.Coalgebra).isFault -/
def ir138 : Cd := (.seq (.reg [⟨some 10,none,.mov (.c (.bool false))⟩]) (.seq (.reg [⟨some 15,none,.mov (.t 0)⟩,⟨some 16,none,.call 137 [(.t 15)]⟩,⟨some 11,none,.new 62 [(2,(.int .i64 0))]⟩,⟨none,none,.st 2 (.t 11) (.t 16)⟩,⟨some 12,none,.mov (.c (.int .i64 0))⟩,⟨some 13,none,.mov (.c (.int .i64 0))⟩]) (.seq (.seq (.reg [⟨some 17,none,.fa 1 (.t 11)⟩,⟨some 18,none,.ld none (.t 17)⟩,⟨some 19,none,.mov (.c (.int .i64 0))⟩]) (.block 0 (.loop (.seq (.reg [⟨some 20,none,.bin .lss (.t 19) (.t 18)⟩]) (.seq (.cond (.t 20) .skip (.exit 0)) (.seq (.block 1 (.seq (.reg [⟨some 21,none,.mov (.t 19)⟩,⟨some 14,none,.mov (.t 21)⟩]) (.seq (.drw true [] [⟨some 22,none,.mov (.t 12)⟩,⟨some 23,none,.mov (.t 0)⟩,⟨some 24,none,.mov (.t 1)⟩,⟨some 25,none,.mov (.t 14)⟩,⟨some 26,none,.mov (.t 4)⟩,⟨some 27,none,.ck (.t 23)⟩,⟨some 28,none,.fa 10 (.t 27)⟩,⟨some 29,none,.ia 8 64 (.t 28) (.t 24)⟩,⟨some 30,none,.ia 8 8 (.t 29) (.t 25)⟩,⟨some 31,none,.ia 8 1 (.t 30) (.t 26)⟩,⟨some 32,none,.ld none (.t 31)⟩,⟨some 33,none,.cv .i64 (.t 32)⟩,⟨some 34,none,.mov (.t 0)⟩,⟨some 35,none,.mov (.t 14)⟩,⟨some 36,none,.mov (.t 2)⟩,⟨some 37,none,.mov (.t 3)⟩,⟨some 38,none,.ck (.t 34)⟩,⟨some 39,none,.fa 10 (.t 38)⟩,⟨some 40,none,.ia 8 64 (.t 39) (.t 35)⟩,⟨some 41,none,.ia 8 8 (.t 40) (.t 36)⟩,⟨some 42,none,.ia 8 1 (.t 41) (.t 37)⟩,⟨some 43,none,.ld none (.t 42)⟩,⟨some 44,none,.cv .i64 (.t 43)⟩,⟨some 45,none,.bin .mul (.t 33) (.t 44)⟩,⟨some 46,none,.bin .add (.t 22) (.t 45)⟩,⟨some 12,none,.mov (.t 46)⟩]) (.drw true [] [⟨some 47,none,.mov (.t 13)⟩,⟨some 48,none,.mov (.t 0)⟩,⟨some 49,none,.mov (.t 1)⟩,⟨some 50,none,.mov (.t 2)⟩,⟨some 51,none,.mov (.t 14)⟩,⟨some 52,none,.ck (.t 48)⟩,⟨some 53,none,.fa 10 (.t 52)⟩,⟨some 54,none,.ia 8 64 (.t 53) (.t 49)⟩,⟨some 55,none,.ia 8 8 (.t 54) (.t 50)⟩,⟨some 56,none,.ia 8 1 (.t 55) (.t 51)⟩,⟨some 57,none,.ld none (.t 56)⟩,⟨some 58,none,.cv .i64 (.t 57)⟩,⟨some 59,none,.mov (.t 0)⟩,⟨some 60,none,.mov (.t 14)⟩,⟨some 61,none,.mov (.t 3)⟩,⟨some 62,none,.mov (.t 4)⟩,⟨some 63,none,.ck (.t 59)⟩,⟨some 64,none,.fa 10 (.t 63)⟩,⟨some 65,none,.ia 8 64 (.t 64) (.t 60)⟩,⟨some 66,none,.ia 8 8 (.t 65) (.t 61)⟩,⟨some 67,none,.ia 8 1 (.t 66) (.t 62)⟩,⟨some 68,none,.ld none (.t 67)⟩,⟨some 69,none,.cv .i64 (.t 68)⟩,⟨some 70,none,.bin .mul (.t 58) (.t 69)⟩,⟨some 71,none,.bin .add (.t 47) (.t 70)⟩,⟨some 13,none,.mov (.t 71)⟩])))) (.reg [⟨some 72,none,.bin .add (.t 19) (.c (.int .i64 1))⟩,⟨some 19,none,.mov (.t 72)⟩]))))))) (.seq (.drw true [] [⟨some 73,none,.mov (.t 12)⟩,⟨some 74,none,.fa 0 (.t 11)⟩,⟨some 75,none,.ld none (.t 74)⟩,⟨some 76,none,.bin .rem (.t 73) (.t 75)⟩,⟨some 77,none,.mov (.t 13)⟩,⟨some 78,none,.fa 0 (.t 11)⟩,⟨some 79,none,.ld none (.t 78)⟩,⟨some 80,none,.bin .rem (.t 77) (.t 79)⟩,⟨some 81,none,.bin .neq (.t 76) (.t 80)⟩,⟨some 10,none,.mov (.t 81)⟩]) .ret))))

set_option maxRecDepth 100000 in
theorem tr138 : trFn Tryz.prog Tryz.f138 = some (82, ir138, [.tmp 10]) := by kernel_rfl

theorem Coalgebra_isFault (p : Int) (a i j k l : Nat) (ii jj kk ll : Int) (c : Nat → Int) (b : Nat) (K : Blk) (H : Hp) (n : Nat) (hp : 2 ≤ p ∧ p ≤ 31) (ha : a ≤ 8) (hi : i < a ∧ ii = i) (hj : j < a ∧ jj = j) (hk : k < a ∧ kk = k) (hl : l < a ∧ ll = l)
    (hb : H.get b = some K) (hsz : K.size = 522) (h0 : K.c 0 = .int .i64 p) (h1 : K.c 1 = .int .i64 a) (hK : ∀ q, q < 512 → K.c (10 + q) = .int .u8 (c q)) (hc : isBy 512 c) :
    FnS Tryz.prog 138 [ptr b 0, i64 ii, i64 jj, i64 kk, i64 ll] H n (fun r H' _ => r = bl (!tb (cosum1 p c i j k l a = cosum2 p c i j k l a)) ∧ H' = H) := by
  obtain ⟨hi, rfl⟩ := hi
  obtain ⟨hj, rfl⟩ := hj
  obtain ⟨hk, rfl⟩ := hk
  obtain ⟨hl, rfl⟩ := hl
  refine FnS.of_body Tryz.func138 tr138 (by simp) (fun hf => ?_)
  dsimp only [argEnv]
  unfold ir138
  have hbn := getlt hf hb
  (refine zG ?_)
  refine RS.call rfl ((Coalgebra_field p a b K _ _ (by exact zH) hsz h0 h1 (by omega)).mono ?_)
  rintro r H n2 hn2 ⟨rfl, rfl⟩
  (refine zG ?_)
  refine CS.iter a (fun x => [(19, i64 x), (18, i64 a), (12, i64 (sm (fun a => c (64 * i + 8 * a + l) * c (64 * a + 8 * j + k)) x)), (13, i64 (sm (fun a => c (64 * i + 8 * j + a) * c (64 * a + 8 * k + l)) x)), (11, ptr n2 0), (0, ptr b 0), (1, i64 i), (2, i64 j), (3, i64 k), (4, i64 l)])
    (fun _ => (n2, ⟨2, fldC p a, 62⟩) :: H) (fun _ => True) (by (repeat first | exact trivial | refine And.intro rfl ?_)) (by exact zD) trivial ?_
  intro x n3 hx hn _
  have hs1 := sm_b (f := fun a => c (64 * i + 8 * a + l) * c (64 * a + 8 * j + k)) (B := 65025) (n := x) (fun q hq => by
    have h1 := hc (64 * i + 8 * q + l) (by omega)
    have h2 := hc (64 * q + 8 * j + k) (by omega)
    exact mulB h1.1 h1.2 h2.1 h2.2)
  have hs2 := sm_b (f := fun a => c (64 * i + 8 * j + a) * c (64 * a + 8 * k + l)) (B := 65025) (n := x) (fun q hq => by
    have h1 := hc (64 * i + 8 * j + q) (by omega)
    have h2 := hc (64 * q + 8 * k + l) (by omega)
    exact mulB h1.1 h1.2 h2.1 h2.2)
  (refine zG ?_)
  refine zI ?_ ?_<;>intro h2
  · have g1 := hc (64 * i + 8 * x + l) (by omega)
    have g2 := hc (64 * x + 8 * j + k) (by omega)
    have g3 := mulB g1.1 g1.2 g2.1 g2.2
    have g4 := hc (64 * i + 8 * j + x) (by omega)
    have g5 := hc (64 * x + 8 * k + l) (by omega)
    have g6 := mulB g4.1 g4.2 g5.1 g5.2
    (repeat first|refine zG ?_|(refine LS.nilO ?_;intro nq hnq hltq;try refine zU ?_)|(refine MS.new ?_;intro bq hbq hbqf;try refine zU ?_)|(refine MS.nil ?_;intro nq hnq hltq;have hlq:=hltq _ _ (Hp.get_eq _ _ _);clear hltq;try refine zU ?_)|(refine LS.nilQ ?_;try with_reducible intro nq hnq;try refine zU ?_))
    exact ⟨by omega, by (repeat first | exact trivial | refine And.intro rfl ?_), Drops.refl _ _, trivial⟩
  · have : x = a := by omega
    subst this
    (repeat first|refine zG ?_|(refine LS.nilO ?_;intro nq hnq hltq;try refine zU ?_)|(refine MS.new ?_;intro bq hbq hbqf;try refine zU ?_)|(refine MS.nil ?_;intro nq hnq hltq;have hlq:=hltq _ _ (Hp.get_eq _ _ _);clear hltq;try refine zU ?_)|(refine LS.nilQ ?_;try with_reducible intro nq hnq;try refine zU ?_))
    exact ⟨_, H, rfl, by exact zD, by rw [tb_dec]; rfl, rfl⟩

/-- (*impl.Hopf).counit -/
def ir31 : Cd := (.seq (.reg [⟨some 3,none,.box 32 (.t 1)⟩,⟨some 4,none,.mov (.c (.int .i64 0))⟩]) (.seq (.drwo true [7] [0,2,3,4,5,6,1,7,8] [⟨some 5,none,.mov (.t 0)⟩,⟨some 6,none,.call 28 [(.t 5)]⟩,⟨some 7,none,.mov (.t 0)⟩,⟨some 8,none,.ck (.t 7)⟩,⟨some 9,none,.fa 522 (.t 8)⟩,⟨some 10,none,.ld (some 8) (.t 9)⟩,⟨some 11,none,.ld (some 8) (.t 3)⟩,⟨some 12,none,.call 55 [(.t 6),(.t 10),(.t 11)]⟩,⟨some 4,none,.mov (.t 12)⟩]) .ret))

set_option maxRecDepth 100000 in
theorem tr31 : trFn Tryz.prog Tryz.f31 = some (13, ir31, [.tmp 4]) := by kernel_rfl

theorem Hopf_counit (h : HT) (a : Nat) (v : Nat → Int) (b : Nat) (K : Blk) (H : Hp) (n : Nat) (hS : HS h a) (hb : H.get b = some K) (hsz : K.size = 1106) (hK : h.At K.c) (hB : h.By) (hv : isBy 8 v) :
    FnS Tryz.prog 31 [ptr b 0, .arr 8 (bys v)] H n (fun r H' _ => r = i64 (dotk h.p h.e v 8) ∧ H' = H) := by
  have hp := hS.hp
  have ha := hS.ha
  have hk1 := hK.n
  rw [hS.hn] at hk1
  have hk5 := hK.e
  refine FnS.of_body Tryz.func31 tr31 (by simp) (fun hf => ?_)
  dsimp only [argEnv]
  unfold ir31
  have hbn := getlt hf hb
  (refine zG ?_)
  refine CS.quietLo ?_
  (refine zG ?_)
  refine LS.callQ (fld h.p a) rfl (fun n' hn' => Hopf_field h.p a b K _ _ (by exact zH) hsz hK.p hk1 (by omega)) ?_
  (refine zG ?_)
  refine LS.callQ (i64 (dotk h.p h.e v 8)) rfl (fun n' hn' => field_dot h.p a h.e v _ _ hp hB.e hv) ?_
  (repeat first|refine zG ?_|(refine LS.nilO ?_;intro nq hnq hltq;try refine zU ?_)|(refine MS.new ?_;intro bq hbq hbqf;try refine zU ?_)|(refine MS.nil ?_;intro nq hnq hltq;have hlq:=hltq _ _ (Hp.get_eq _ _ _);clear hltq;try refine zU ?_)|(refine LS.nilQ ?_;try with_reducible intro nq hnq;try refine zU ?_))
  exact ⟨_, H, rfl, by exact zD, rfl, rfl⟩

end Go.Proofs.YtideblodkkgodaaGreat
