/- Modules: what a vector does to a vector, on the reference's side; whether maps are a module. -/
import Derived.Test.YtkmfdhicjaccaaaGreatJbn
set_option linter.unusedSectionVars false
set_option linter.unusedVariables false
set_option linter.unusedSimpArgs false

namespace Go.V

set_option linter.unusedSimpArgs false

set_option linter.unusedVariables false

/-- What a vector a does to v, by its first N entries. -/
def act (p : Int) (t a v : Nat → Int) (d N : Nat) : Nat → Int := fun x => sm (fun i => a i * apk p (fun y => t (64 * i + y)) v d x) N % p

theorem act_zero (p : Int) (t a v : Nat → Int) (d : Nat) : act p t a v d 0 = fun _ => 0 := by funext x; simp [act, sm]

theorem act_step (p : Int) (t a v : Nat → Int) (d i : Nat) : pl p (act p t a v d i) (a i) (apk p (fun y => t (64 * i + y)) v d) = act p t a v d (i + 1) := by
  funext x; unfold pl act; rw [modAddL, sm]

theorem act_skip {p : Int} {t a v : Nat → Int} {d i : Nat} (h : a i = 0) : act p t a v d (i + 1) = act p t a v d i := by
  funext x; unfold act; rw [sm, h, Int.zero_mul, Int.add_zero]

theorem act_res {p : Int} (hp : 2 ≤ p) (t a v : Nat → Int) (d i N : Nat) : isRes p N (act p t a v d i) := fun _ _ => modB _ hp

/-- The form of a module. -/
def mshp (p d : Int) (N : Nat) (t : Nat → Int) : Prop := (1 ≤ d ∧ d ≤ 8) ∧ ∀ i : Nat, i < 8 → isLin p d d (fun x => t (64 * i + x)) ∧ (N ≤ i → ∀ x, x < 64 → t (64 * i + x) = 0)

/-- A module. -/
def isMod (p : Int) (d : Nat) (N : Nat) (u m t : Nat → Int) : Prop := (∀ k, k < d → ∀ x, x < 8 → cps p t u 8 (8 * k + x) = bas k x) ∧
  ∀ i j, i < N → j < N → ∀ k, k < d → ∀ x, x < 8 → cps p t (fun y => m (64 * i + 8 * j + y)) 8 (8 * k + x) = app p (fun y => t (64 * i + y)) (fun y => t (64 * j + 8 * k + y)) x

def isModule (h : HT) (N : Nat) (d : Int) (t : Nat → Int) : Prop := mshp h.p d N t ∧ isMod h.p d.toNat N h.u h.m t

theorem act_bas {p : Int} (hp : 2 ≤ p) {t a : Nat → Int} {d N k x : Nat} (ht : isRes p 512 t) (hN : N ≤ 8) (ha : vz N a) (hk : k < d) (hd : d ≤ 8) (hx : x < 8) : act p t a (bas k) d N x = cps p t a 8 (8 * k + x) := by
  unfold act cps
  rw [sm_more hN (fun i h1 h2 => by rw [ha i h2 h1, Int.zero_mul])]
  congr 1
  refine sm_congr fun i hi => ?_
  congr 1
  unfold apk
  rw [sm_one hk (fun j hj hjk => by unfold bas; rw [if_neg hjk, Int.zero_mul])]
  have := ht (64 * i + (8 * k + x)) (by omega)
  unfold bas
  rw [if_pos rfl, Int.one_mul, modSelf this]

end Go.V

namespace Go.Proofs.YtkmfdhicjaccaaaGreat

open Go.V

variable [BW]

set_option linter.unusedSimpArgs false

set_option linter.unusedVariables false

set_option maxHeartbeats 4000000

/-- spec.l06Act -/
def ir118 : Cd := (.seq (.reg [⟨some 4,none,.box 41 (.t 0)⟩,⟨some 5,none,.box 36 (.t 1)⟩,⟨some 6,none,.box 31 (.t 2)⟩,⟨some 7,none,.box 31 (.t 3)⟩,⟨some 8,none,.new 31 [(8,(.int .u8 0))]⟩]) (.seq (.reg [⟨some 11,none,.build 8 [(8,(.int .u8 0))] []⟩,⟨some 9,none,.new 31 [(8,(.int .u8 0))]⟩,⟨none,none,.st 8 (.t 9) (.t 11)⟩]) (.seq (.seq (.reg [⟨some 10,none,.mov (.c (.int .i64 0))⟩]) (.block 0 (.loop (.seq (.seq (.reg [⟨some 12,none,.mov (.t 10)⟩,⟨some 13,none,.fa 1 (.t 4)⟩,⟨some 14,none,.ld none (.t 13)⟩,⟨some 15,none,.bin .lss (.t 12) (.t 14)⟩]) (.cond (.t 15) .skip (.exit 0))) (.seq (.block 1 (.seq (.reg [⟨some 18,none,.mov (.t 10)⟩,⟨some 19,none,.ia 8 1 (.t 6) (.t 18)⟩,⟨some 20,none,.ld none (.t 19)⟩,⟨some 21,none,.bin .neq (.t 20) (.c (.int .u8 0))⟩]) (.cond (.t 21) (.drwo true [17,18] [0,1,2,3,4,5,6,7,8,9,10,11,13,14,15,16,12,17,18] [⟨some 22,none,.fa 0 (.t 4)⟩,⟨some 23,none,.ld none (.t 22)⟩,⟨some 24,none,.ld (some 8) (.t 9)⟩,⟨some 25,none,.fa 0 (.t 4)⟩,⟨some 26,none,.ld none (.t 25)⟩,⟨some 27,none,.fa 0 (.t 5)⟩,⟨some 28,none,.ld none (.t 27)⟩,⟨some 29,none,.mov (.t 10)⟩,⟨some 30,none,.fa 1 (.t 5)⟩,⟨some 31,none,.ia 8 64 (.t 30) (.t 29)⟩,⟨some 32,none,.ld (some 64) (.t 31)⟩,⟨some 33,none,.ld (some 8) (.t 7)⟩,⟨some 34,none,.call 58 [(.t 26),(.t 28),(.t 32),(.t 33)]⟩,⟨some 35,none,.mov (.t 10)⟩,⟨some 36,none,.ia 8 1 (.t 6) (.t 35)⟩,⟨some 37,none,.ld none (.t 36)⟩,⟨some 38,none,.cv .i64 (.t 37)⟩,⟨some 39,none,.call 59 [(.t 23),(.t 24),(.t 34),(.t 38)]⟩,⟨none,none,.st 8 (.t 9) (.t 39)⟩]) .skip))) (.reg [⟨some 16,none,.mov (.t 10)⟩,⟨some 17,none,.bin .add (.t 16) (.c (.int .i64 1))⟩,⟨some 10,none,.mov (.t 17)⟩])))))) (.seq (.reg [⟨some 40,none,.ld (some 8) (.t 9)⟩,⟨none,none,.st 8 (.t 8) (.t 40)⟩]) .ret))))

set_option maxRecDepth 100000 in
theorem tr118 : trFn Tryz.prog Tryz.f118 = some (41, ir118, [.cell (some 8) 8]) := by kernel_rfl

theorem spec_l06Act (h : HT) (N d : Nat) (t a v : Nat → Int) (Kh Km : Nat → SV) (H : Hp) (n : Nat) (hS : HS h N) (hK : h.At Kh) (kd : Km 0 = .int .i64 (d : Nat)) (cm : ∀ q, q < 512 → Km (1 + q) = .int .u8 (t q)) (ht : isBy 512 t) (hd : d ≤ 8) (ha : isBy 8 a) (hv : isBy 8 v) :
    FnS Tryz.prog 118 [.arr 1106 Kh, .arr 513 Km, .arr 8 (bys a), .arr 8 (bys v)] H n (fun r H' _ => r = .arr 8 (bys (act h.p t a v d N)) ∧ H' = H) := by
  have hp := hS.hp
  have hN := hS.ha
  have hk0 := hK.p
  have hk1 := hK.n
  rw [hS.hn] at hk1
  have hk1' : Kh (0 + 1) = .int .i64 (N : Nat) := hk1
  refine FnS.of_body Tryz.func118 tr118 (by simp) (fun hf => ?_)
  dsimp only [argEnv]
  unfold ir118
  (refine zG ?_)
  refine CS.iter N (fun i => [(10, i64 (i : Nat)), (4, ptr n 0), (5, ptr (n + 1) 0), (6, ptr (n + 2) 0), (7, ptr (n + 3) 0), (8, ptr (n + 4) 0), (9, ptr (n + 5) 0)])
    (fun i => (n + 5, ⟨8, bys (act h.p t a v d i), 31⟩) :: (n + 4, ⟨8, bys (fun _ => 0), 31⟩) :: (n + 3, ⟨8, bys v, 31⟩) :: (n + 2, ⟨8, bys a, 31⟩) :: (n + 1, ⟨513, Km, 36⟩) :: (n, ⟨1106, Kh, 41⟩) :: H) (fun _ => True) (by (repeat first | exact trivial | refine And.intro rfl ?_))
    (Drops.keepc rfl rfl (fun _ _ => by rw [act_zero]; rfl) (Drops.keepc rfl rfl (fun _ _ => rfl) (Drops.refl _ _))) trivial ?_
  intro i n1 hi hn _
  (refine zG ?_)
  refine zI ?_ ?_<;>intro h1
  · have hai := ha i (by omega)
    (refine zG ?_)
    refine zI ?_ ?_<;>intro h2
    · (repeat first|refine zG ?_|(refine LS.nilO ?_;intro nq hnq hltq;try refine zU ?_)|(refine MS.new ?_;intro bq hbq hbqf;try refine zU ?_)|(refine MS.nil ?_;intro nq hnq hltq;have hlq:=hltq _ _ (Hp.get_eq _ _ _);clear hltq;try refine zU ?_)|(refine LS.nilQ ?_;try with_reducible intro nq hnq;try refine zU ?_))
      refine CS.tailLo _ (List.Mem.head _) ?_; dsimp only [List.take, List.drop]
      (refine zG ?_)
      refine LS.callQ (.arr 8 (bys (apk h.p (fun y => t (64 * i + y)) v d))) rfl (fun n' hn' => spec_l01Apply h.p d (fun y => t (64 * i + y)) v _ _ hp hd (fun x hx => ht _ (by omega)) hv) ?_
      (repeat first|refine zG ?_|(refine LS.nilO ?_;intro nq hnq hltq;try refine zU ?_)|(refine MS.new ?_;intro bq hbq hbqf;try refine zU ?_)|(refine MS.nil ?_;intro nq hnq hltq;have hlq:=hltq _ _ (Hp.get_eq _ _ _);clear hltq;try refine zU ?_)|(refine LS.nilQ ?_;try with_reducible intro nq hnq;try refine zU ?_))
      refine RS.call rfl ((spec_l01Add h.p (a i) (act h.p t a v d i) (apk h.p (fun y => t (64 * i + y)) v d) _ _ hp ((act_res hp.1 _ _ _ _ _ 8).by hp.2) ((apk_res hp.1 _ _ _ 8).by hp.2) (by omega)).mono ?_)
      rintro r H' n2 hn2 ⟨rfl, rfl⟩
      (refine zG ?_)
      exact ⟨by omega, by (repeat first | exact trivial | refine And.intro rfl ?_), Drops.keepc rfl rfl (fun q hq => by rw [act_step]) (Drops.refl _ _), trivial⟩
    · (refine zG ?_)
      exact ⟨by omega, by (repeat first | exact trivial | refine And.intro rfl ?_), by rw [act_skip h2]; exact Drops.refl _ _, trivial⟩
  · obtain rfl : N = i := by omega
    (refine zG ?_)
    exact ⟨.arr 8 (bys (act h.p t a v d N)), H, conc_arr (fun q hq => by simp only [Nat.zero_add]), by exact zD, rfl, rfl⟩

end Go.Proofs.YtkmfdhicjaccaaaGreat

/- Whether maps are a module, on the reference's side. -/

namespace Go.V

set_option linter.unusedSimpArgs false

set_option linter.unusedVariables false

theorem mshp.res {p d : Int} {N : Nat} {t : Nat → Int} (h : mshp p d N t) (ht : isBy 512 t) : isRes p 512 t := fun q hq => by
  have := ((h.2 (q / 64) (by omega)).1.res (fun x hx => ht _ (by omega))) (q % 64) (by omega)
  dsimp only at this
  rwa [show 64 * (q / 64) + q % 64 = q by omega] at this

theorem mshp.zero {p : Int} {d N : Nat} {t : Nat → Int} (h : mshp p d N t) {i j x : Nat} (hi : i < 8) (hj : j < 8) (hx : x < 8) (hz : N ≤ i ∨ d ≤ j ∨ d ≤ x) : t (64 * i + 8 * j + x) = 0 := by
  rcases hz with hz | hz | hz
  · have := (h.2 i hi).2 hz (8 * j + x) (by omega)
    rwa [Nat.add_assoc]
  · have := ((h.2 i hi).1 j hj).2 (by omega) x hx
    rwa [Nat.add_assoc]
  · have := (((h.2 i hi).1 j hj).1 x hx).2 (by omega)
    rwa [Nat.add_assoc]

end Go.V

namespace Go.Proofs.YtkmfdhicjaccaaaGreat

open Go.V

variable [BW]

set_option linter.unusedSimpArgs false

set_option linter.unusedVariables false

set_option maxHeartbeats 4000000

/-- spec.l06Holds -/
def ir86 : Cd := (.seq (.reg [⟨some 2,none,.box 41 (.t 0)⟩,⟨some 3,none,.box 36 (.t 1)⟩,⟨some 4,none,.mov (.c (.bool false))⟩]) (.seq (.seq (.reg [⟨some 10,none,.fa 0 (.t 3)⟩,⟨some 11,none,.ld none (.t 10)⟩,⟨some 12,none,.call 116 [(.t 11),(.c (.int .i64 1)),(.c (.int .i64 8))]⟩,⟨some 13,none,.un .not (.t 12)⟩]) (.cond (.t 13) (.seq (.reg [⟨some 4,none,.mov (.c (.bool false))⟩]) .ret) .skip)) (.seq (.seq (.reg [⟨some 5,none,.mov (.c (.int .i64 0))⟩]) (.block 0 (.loop (.seq (.seq (.reg [⟨some 14,none,.mov (.t 5)⟩,⟨some 15,none,.bin .lss (.t 14) (.c (.int .i64 8))⟩]) (.cond (.t 15) .skip (.exit 0))) (.seq (.block 1 (.seq (.drw true [] [⟨some 18,none,.fa 0 (.t 2)⟩,⟨some 19,none,.ld none (.t 18)⟩,⟨some 20,none,.fa 0 (.t 3)⟩,⟨some 21,none,.ld none (.t 20)⟩,⟨some 22,none,.mov (.t 5)⟩,⟨some 23,none,.fa 1 (.t 3)⟩,⟨some 24,none,.ia 8 64 (.t 23) (.t 22)⟩,⟨some 25,none,.ld (some 64) (.t 24)⟩,⟨some 26,none,.call 117 [(.t 19),(.t 21),(.t 25)]⟩,⟨some 27,none,.un .not (.t 26)⟩,⟨some 28,none,.mov (.t 27)⟩,⟨some 29,(some (28,false)),.mov (.t 5)⟩,⟨some 30,(some (28,false)),.fa 1 (.t 2)⟩,⟨some 31,(some (28,false)),.ld none (.t 30)⟩,⟨some 32,(some (28,false)),.bin .geq (.t 29) (.t 31)⟩,⟨some 33,(some (28,false)),.mov (.t 32)⟩,⟨some 34,(some (33,true)),.mov (.t 5)⟩,⟨some 35,(some (33,true)),.fa 1 (.t 3)⟩,⟨some 36,(some (33,true)),.ia 8 64 (.t 35) (.t 34)⟩,⟨some 37,(some (33,true)),.ld (some 64) (.t 36)⟩,⟨some 38,(some (33,true)),.build 64 [(64,(.int .u8 0))] []⟩,⟨some 39,(some (33,true)),.eqa true 64 (.t 37) (.t 38)⟩,⟨some 40,(some (28,false)),.pick (.t 33) (.t 39) (.c (.bool false))⟩,⟨some 41,none,.pick (.t 28) (.c (.bool true)) (.t 40)⟩]) (.cond (.t 41) (.seq (.reg [⟨some 4,none,.mov (.c (.bool false))⟩]) .ret) .skip))) (.reg [⟨some 16,none,.mov (.t 5)⟩,⟨some 17,none,.bin .add (.t 16) (.c (.int .i64 1))⟩,⟨some 5,none,.mov (.t 17)⟩])))))) (.seq (.seq (.reg [⟨some 6,none,.mov (.c (.int .i64 0))⟩]) (.block 2 (.loop (.seq (.seq (.reg [⟨some 42,none,.mov (.t 6)⟩,⟨some 43,none,.fa 0 (.t 3)⟩,⟨some 44,none,.ld none (.t 43)⟩,⟨some 45,none,.bin .lss (.t 42) (.t 44)⟩]) (.cond (.t 45) .skip (.exit 2))) (.seq (.block 3 (.seq (.reg [⟨some 48,none,.mov (.t 6)⟩,⟨some 49,none,.call 45 [(.t 48)]⟩,⟨some 7,none,.new 31 [(8,(.int .u8 0))]⟩,⟨none,none,.st 8 (.t 7) (.t 49)⟩]) (.seq (.seq (.drw true [] [⟨some 50,none,.ld (some 1106) (.t 2)⟩,⟨some 51,none,.ld (some 513) (.t 3)⟩,⟨some 52,none,.fa 2 (.t 2)⟩,⟨some 53,none,.ld (some 8) (.t 52)⟩,⟨some 54,none,.ld (some 8) (.t 7)⟩,⟨some 55,none,.call 118 [(.t 50),(.t 51),(.t 53),(.t 54)]⟩,⟨some 56,none,.ld (some 8) (.t 7)⟩,⟨some 57,none,.eqa true 8 (.t 55) (.t 56)⟩]) (.cond (.t 57) (.seq (.reg [⟨some 4,none,.mov (.c (.bool false))⟩]) .ret) .skip)) (.seq (.reg [⟨some 8,none,.mov (.c (.int .i64 0))⟩]) (.block 4 (.loop (.seq (.seq (.reg [⟨some 58,none,.mov (.t 8)⟩,⟨some 59,none,.fa 1 (.t 2)⟩,⟨some 60,none,.ld none (.t 59)⟩,⟨some 61,none,.bin .lss (.t 58) (.t 60)⟩]) (.cond (.t 61) .skip (.exit 4))) (.seq (.block 5 (.seq (.reg [⟨some 9,none,.mov (.c (.int .i64 0))⟩]) (.block 6 (.loop (.seq (.seq (.reg [⟨some 64,none,.mov (.t 9)⟩,⟨some 65,none,.fa 1 (.t 2)⟩,⟨some 66,none,.ld none (.t 65)⟩,⟨some 67,none,.bin .lss (.t 64) (.t 66)⟩]) (.cond (.t 67) .skip (.exit 6))) (.seq (.block 7 (.seq (.drw true [24] [⟨some 70,none,.ld (some 1106) (.t 2)⟩,⟨some 71,none,.ld (some 513) (.t 3)⟩,⟨some 72,none,.mov (.t 8)⟩,⟨some 73,none,.mov (.t 9)⟩,⟨some 74,none,.fa 10 (.t 2)⟩,⟨some 75,none,.ia 8 64 (.t 74) (.t 72)⟩,⟨some 76,none,.ia 8 8 (.t 75) (.t 73)⟩,⟨some 77,none,.ld (some 8) (.t 76)⟩,⟨some 78,none,.ld (some 8) (.t 7)⟩,⟨some 79,none,.call 118 [(.t 70),(.t 71),(.t 77),(.t 78)]⟩,⟨some 80,none,.fa 0 (.t 2)⟩,⟨some 81,none,.ld none (.t 80)⟩,⟨some 82,none,.fa 0 (.t 3)⟩,⟨some 83,none,.ld none (.t 82)⟩,⟨some 84,none,.mov (.t 8)⟩,⟨some 85,none,.fa 1 (.t 3)⟩,⟨some 86,none,.ia 8 64 (.t 85) (.t 84)⟩,⟨some 87,none,.ld (some 64) (.t 86)⟩,⟨some 88,none,.mov (.t 9)⟩,⟨some 89,none,.mov (.t 6)⟩,⟨some 90,none,.fa 1 (.t 3)⟩,⟨some 91,none,.ia 8 64 (.t 90) (.t 88)⟩,⟨some 92,none,.ia 8 8 (.t 91) (.t 89)⟩,⟨some 93,none,.ld (some 8) (.t 92)⟩,⟨some 94,none,.call 58 [(.t 81),(.t 83),(.t 87),(.t 93)]⟩,⟨some 95,none,.eqa true 8 (.t 79) (.t 94)⟩]) (.cond (.t 95) (.seq (.reg [⟨some 4,none,.mov (.c (.bool false))⟩]) .ret) .skip))) (.reg [⟨some 68,none,.mov (.t 9)⟩,⟨some 69,none,.bin .add (.t 68) (.c (.int .i64 1))⟩,⟨some 9,none,.mov (.t 69)⟩]))))))) (.reg [⟨some 62,none,.mov (.t 8)⟩,⟨some 63,none,.bin .add (.t 62) (.c (.int .i64 1))⟩,⟨some 8,none,.mov (.t 63)⟩]))))))))) (.reg [⟨some 46,none,.mov (.t 6)⟩,⟨some 47,none,.bin .add (.t 46) (.c (.int .i64 1))⟩,⟨some 6,none,.mov (.t 47)⟩])))))) (.seq (.reg [⟨some 4,none,.mov (.c (.bool true))⟩]) .ret)))))

set_option maxRecDepth 100000 in
theorem tr86 : trFn Tryz.prog Tryz.f86 = some (96, ir86, [.tmp 4]) := by kernel_rfl

theorem spec_l06Holds (h : HT) (N : Nat) (d : Int) (t : Nat → Int) (Kh Km : Nat → SV) (H : Hp) (n : Nat) (hS : HS h N) (hK : h.At Kh) (hB : h.By) (kd : Km 0 = .int .i64 d) (cm : ∀ q, q < 512 → Km (1 + q) = .int .u8 (t q)) (ht : isBy 512 t) :
    FnS Tryz.prog 86 [.arr 1106 Kh, .arr 513 Km] H n (fun r H' _ => r = bl (tb (isModule h N d t)) ∧ H' = H) := by
  have hp := hS.hp
  have hN := hS.ha
  have hk0 := hK.p
  have hk1 := hK.n
  have hku := hK.u
  have hkm := hK.m
  rw [hS.hn] at hk1
  have hk1' : Kh (0 + 1) = .int .i64 (N : Nat) := hk1
  refine FnS.of_body Tryz.func86 tr86 (by simp) (fun hf => ?_)
  dsimp only [argEnv]
  unfold ir86
  (refine zG ?_)
  refine RS.call rfl ((spec_l01In d 1 8 _ _).mono ?_)
  rintro r H' n0 hn0 ⟨rfl, rfl⟩
  (refine zG ?_)
  refine zI ?_ ?_<;>intro h0
  · (refine zG ?_)
    exact ⟨_, H, rfl, by exact zD, by rw [tb_false (fun q => h0 q.1.1)], rfl⟩
  obtain ⟨d, rfl⟩ := Int.eq_ofNat_of_zero_le (show 0 ≤ d by omega)
  have hd1 : 1 ≤ d := by omega
  have hd : d ≤ 8 := by omega
  (refine zG ?_)
  refine CS.iter 8 (fun i => [(5, i64 (i : Nat)), (2, ptr n 0), (3, ptr (n + 1) 0)]) (fun _ => (n + 1, ⟨513, Km, 36⟩) :: (n, ⟨1106, Kh, 41⟩) :: H)
    (fun i => ∀ j : Nat, j < i → isLin h.p d d (fun x => t (64 * j + x)) ∧ (N ≤ j → ∀ x, x < 64 → t (64 * j + x) = 0)) (by (repeat first | exact trivial | refine And.intro rfl ?_)) (Drops.refl _ _) (fun j hj => by omega) ?_
  intro i n1 hi hn hJ
  (refine zG ?_)
  refine zI ?_ ?_<;>intro h1
  · (refine zG ?_)
    refine LS.callQ (bl (tb (isLin h.p d d (fun x => t (64 * i + x))))) rfl (fun n' hn' => spec_l01Linear h.p d (fun x => t (64 * i + x)) _ _ (fun x hx => ht _ (by omega))) ?_
    (refine zG ?_)
    refine RS.sp (t := 28) rfl (fun h2 => ?_) (fun h2 => ?_) <;> (try simp only [tb_eq, tb_eqF, decide_eq_true_eq, decide_eq_false_iff_not, beq_iff_eq, bne_iff_ne, ne_eq, Decidable.not_not, beq_eq_false_iff_ne, bne_eq_false_iff_eq, Bool.not_eq_true', Bool.not_eq_false', Bool.not_eq_eq_eq_not, Bool.not_true, Bool.not_false] at h2)
    · (repeat first|refine zG ?_|(refine LS.nilO ?_;intro nq hnq hltq;try refine zU ?_)|(refine MS.new ?_;intro bq hbq hbqf;try refine zU ?_)|(refine MS.nil ?_;intro nq hnq hltq;have hlq:=hltq _ _ (Hp.get_eq _ _ _);clear hltq;try refine zU ?_)|(refine LS.nilQ ?_;try with_reducible intro nq hnq;try refine zU ?_))
      exact ⟨_, H, rfl, by exact zD, by rw [tb_false (fun q => h2 (q.1.2 i (by omega)).1)], rfl⟩
    · (refine zG ?_)
      refine RS.sp (t := 33) rfl (fun h3 => ?_) (fun h3 => ?_) <;> (try simp only [tb_eq, tb_eqF, decide_eq_true_eq, decide_eq_false_iff_not, beq_iff_eq, bne_iff_ne, ne_eq, Decidable.not_not, beq_eq_false_iff_ne, bne_eq_false_iff_eq, Bool.not_eq_true', Bool.not_eq_false', Bool.not_eq_eq_eq_not, Bool.not_true, Bool.not_false] at h3)
      · (repeat first|refine zG ?_|(refine LS.nilO ?_;intro nq hnq hltq;try refine zU ?_)|(refine MS.new ?_;intro bq hbq hbqf;try refine zU ?_)|(refine MS.nil ?_;intro nq hnq hltq;have hlq:=hltq _ _ (Hp.get_eq _ _ _);clear hltq;try refine zU ?_)|(refine LS.nilQ ?_;try with_reducible intro nq hnq;try refine zU ?_))
        refine zI ?_ ?_<;>intro h4
        · (refine zG ?_)
          exact ⟨_, H, rfl, by exact zD, by rw [tb_false (fun q => h4 (fun x hx => (q.1.2 i (by omega)).2 (by omega) x hx))], rfl⟩
        · (refine zG ?_)
          refine ⟨by omega, by (repeat first | exact trivial | refine And.intro rfl ?_), by exact zD, fun j hj => ?_⟩
          by_cases e : j = i
          · subst e; exact ⟨h2, fun _ => h4⟩
          · exact hJ j (by omega)
      · (repeat first|refine zG ?_|(refine LS.nilO ?_;intro nq hnq hltq;try refine zU ?_)|(refine MS.new ?_;intro bq hbq hbqf;try refine zU ?_)|(refine MS.nil ?_;intro nq hnq hltq;have hlq:=hltq _ _ (Hp.get_eq _ _ _);clear hltq;try refine zU ?_)|(refine LS.nilQ ?_;try with_reducible intro nq hnq;try refine zU ?_))
        refine ⟨by omega, by (repeat first | exact trivial | refine And.intro rfl ?_), by exact zD, fun j hj => ?_⟩
        by_cases e : j = i
        · subst e; exact ⟨h2, fun h => by omega⟩
        · exact hJ j (by omega)
  obtain rfl : i = 8 := by omega
  have hsh : mshp h.p d N t := ⟨by omega, fun j hj => hJ j hj⟩
  have htr := hsh.res ht
  clear hJ
  (refine zG ?_)
  refine CS.iter d (fun k => [(6, i64 (k : Nat)), (2, ptr n 0), (3, ptr (n + 1) 0)]) (fun _ => (n + 1, ⟨513, Km, 36⟩) :: (n, ⟨1106, Kh, 41⟩) :: H)
    (fun k => ∀ k', k' < k → (∀ x, x < 8 → cps h.p t h.u 8 (8 * k' + x) = bas k' x) ∧ ∀ i j, i < N → j < N → ∀ x, x < 8 → cps h.p t (fun y => h.m (64 * i + 8 * j + y)) 8 (8 * k' + x) = app h.p (fun y => t (64 * i + y)) (fun y => t (64 * j + 8 * k' + y)) x) (by (repeat first | exact trivial | refine And.intro rfl ?_)) (Drops.refl _ _) (fun j hj => by omega) ?_
  intro k n2 hk hn2 hJ
  (refine zG ?_)
  refine zI ?_ ?_<;>intro h2
  · have hk' : k < d := by omega
    (refine zG ?_)
    refine RS.call rfl ((spec_l01Basis k _ _ (by omega)).mono ?_)
    rintro r H2 n3 hn3 ⟨rfl, rfl⟩
    (refine zG ?_)
    refine LS.callQ (.arr 8 (bys (act h.p t h.u (bas k) d N))) rfl (fun n' hn' => spec_l06Act h N d t h.u (bas k) Kh Km _ _ hS hK kd cm ht hd hB.u (bas_by _ _)) ?_
    (repeat first|refine zG ?_|(refine LS.nilO ?_;intro nq hnq hltq;try refine zU ?_)|(refine MS.new ?_;intro bq hbq hbqf;try refine zU ?_)|(refine MS.nil ?_;intro nq hnq hltq;have hlq:=hltq _ _ (Hp.get_eq _ _ _);clear hltq;try refine zU ?_)|(refine LS.nilQ ?_;try with_reducible intro nq hnq;try refine zU ?_))
    refine zI ?_ ?_<;>intro h3
    · (refine zG ?_)
      exact ⟨_, H, rfl, by exact zD, by rw [tb_false (fun q => h3 (fun x hx => by rw [act_bas hp.1 htr hN hS.um hk' hd hx]; exact q.2.1 k hk' x hx))], rfl⟩
    have e3 : ∀ x, x < 8 → cps h.p t h.u 8 (8 * k + x) = bas k x := fun x hx => by rw [← act_bas hp.1 htr hN hS.um hk' hd hx]; exact h3 x hx
    clear h3
    (refine zG ?_)
    refine CS.iter N (fun i => [(8, i64 (i : Nat)), (7, ptr n3 0), (6, i64 (k : Nat)), (2, ptr n 0), (3, ptr (n + 1) 0)]) (fun _ => (n3, ⟨8, bys (bas k), 31⟩) :: (n + 1, ⟨513, Km, 36⟩) :: (n, ⟨1106, Kh, 41⟩) :: H)
      (fun i => ∀ i' j, i' < i → j < N → ∀ x, x < 8 → cps h.p t (fun y => h.m (64 * i' + 8 * j + y)) 8 (8 * k + x) = app h.p (fun y => t (64 * i' + y)) (fun y => t (64 * j + 8 * k + y)) x) (by (repeat first | exact trivial | refine And.intro rfl ?_)) (Drops.refl _ _) (fun i' j hj => by omega) ?_
    intro i n5 hi hn5 hJi
    (refine zG ?_)
    refine zI ?_ ?_<;>intro h4
    · have hi' : i < N := by omega
      (refine zG ?_)
      refine CS.iter N (fun j => [(9, i64 (j : Nat)), (8, i64 (i : Nat)), (7, ptr n3 0), (6, i64 (k : Nat)), (2, ptr n 0), (3, ptr (n + 1) 0)]) (fun _ => (n3, ⟨8, bys (bas k), 31⟩) :: (n + 1, ⟨513, Km, 36⟩) :: (n, ⟨1106, Kh, 41⟩) :: H)
        (fun j => ∀ j', j' < j → ∀ x, x < 8 → cps h.p t (fun y => h.m (64 * i + 8 * j' + y)) 8 (8 * k + x) = app h.p (fun y => t (64 * i + y)) (fun y => t (64 * j' + 8 * k + y)) x) (by (repeat first | exact trivial | refine And.intro rfl ?_)) (Drops.refl _ _) (fun j hj => by omega) ?_
      intro j n6 hj hn6 hJj
      (refine zG ?_)
      refine zI ?_ ?_<;>intro h5
      · have hj' : j < N := by omega
        have hva : vz N (fun y => h.m (64 * i + 8 * j + y)) := fun x hx hx2 => hS.mm i j x (by omega) (by omega) hx (.inr (.inr hx2))
        have eap : apk h.p (fun y => t (64 * i + y)) (fun y => t (64 * j + 8 * k + y)) d = app h.p (fun y => t (64 * i + y)) (fun y => t (64 * j + 8 * k + y)) := apk_more hd (fun y h1 h2 => hsh.zero (by omega) (by omega) h2 (.inr (.inr h1)))
        (refine zG ?_)
        refine LS.callQ (.arr 8 (bys (act h.p t (fun y => h.m (64 * i + 8 * j + y)) (bas k) d N))) rfl (fun n' hn' => spec_l06Act h N d t (fun y => h.m (64 * i + 8 * j + y)) (bas k) Kh Km _ _ hS hK kd cm ht hd (fun x hx => hB.m _ (by omega)) (bas_by _ _)) ?_
        (repeat first|refine zG ?_|(refine LS.nilO ?_;intro nq hnq hltq;try refine zU ?_)|(refine MS.new ?_;intro bq hbq hbqf;try refine zU ?_)|(refine MS.nil ?_;intro nq hnq hltq;have hlq:=hltq _ _ (Hp.get_eq _ _ _);clear hltq;try refine zU ?_)|(refine LS.nilQ ?_;try with_reducible intro nq hnq;try refine zU ?_))
        refine RS.call rfl ((spec_l01Apply h.p d (fun y => t (64 * i + y)) (fun y => t (64 * j + 8 * k + y)) _ _ hp hd (fun x hx => ht _ (by omega)) (fun x hx => ht _ (by omega))).mono ?_)
        rintro r H2 n7 hn7 ⟨rfl, rfl⟩
        (refine zG ?_)
        refine zI ?_ ?_<;>intro h6
        · (refine zG ?_)
          exact ⟨_, H, rfl, by exact zD, by rw [tb_false (fun q => h6 (fun x hx => by rw [eap, act_bas hp.1 htr hN hva hk' hd hx]; exact q.2.2 i j hi' hj' k hk' x hx))], rfl⟩
        · (refine zG ?_)
          refine ⟨by omega, by (repeat first | exact trivial | refine And.intro rfl ?_), Drops.refl _ _, fun j' hj2 x hx => ?_⟩
          by_cases e : j' = j
          · subst e
            have := h6 x hx
            rw [eap, act_bas hp.1 htr hN hva hk' hd hx] at this
            exact this
          · exact hJj j' (by omega) x hx
      · obtain rfl : N = j := by omega
        (refine zG ?_)
        refine ⟨by omega, by (repeat first | exact trivial | refine And.intro rfl ?_), Drops.refl _ _, fun i' j hi2 hj2 x hx => ?_⟩
        by_cases e : i' = i
        · subst e; exact hJj j hj2 x hx
        · exact hJi i' j (by omega) hj2 x hx
    · obtain rfl : N = i := by omega
      (refine zG ?_)
      refine ⟨by omega, by (repeat first | exact trivial | refine And.intro rfl ?_), by exact zD, fun k' hk2 => ?_⟩
      by_cases e : k' = k
      · subst e; exact ⟨e3, fun i j h1 h2 => hJi i j h1 h2⟩
      · exact hJ k' (by omega)
  · obtain rfl : d = k := by omega
    (refine zG ?_)
    exact ⟨_, H, rfl, by exact zD, by rw [tb_true (show isModule h N d t from ⟨hsh, fun k hk => (hJ k hk).1, fun i j h1 h2 k hk => (hJ k hk).2 i j h1 h2⟩)], rfl⟩

end Go.Proofs.YtkmfdhicjaccaaaGreat

/- Module algebras, on the reference's side. -/

namespace Go.V

set_option linter.unusedSimpArgs false

set_option linter.unusedVariables false

/-- The cells of an algebra. -/
structure AAt (p n' : Int) (u m : Nat → Int) (K : Nat → SV) : Prop where
  p : K 0 = .int .i64 p
  n : K 1 = .int .i64 n'
  u : ∀ q, q < 8 → K (2 + q) = .int .u8 (u q)
  m : ∀ q, q < 512 → K (10 + q) = .int .u8 (m q)

end Go.V

namespace Go.Proofs.YtkmfdhicjaccaaaGreat

open Go.V

variable [BW]

set_option linter.unusedSimpArgs false

set_option linter.unusedVariables false

set_option maxHeartbeats 4000000

end Go.Proofs.YtkmfdhicjaccaaaGreat

/- The code of a Hopf algebra, an algebra and a module, and the constants, on the reference's side. -/

namespace Go.V

set_option linter.unusedSimpArgs false

set_option linter.unusedVariables false

/-- What is asked of a Hopf algebra, an algebra and a module. -/
def q8 (h : HT) (ap an d : Int) (au am t : Nat → Int) : Prop := isHopf h ∧ isAlg ap an au am ∧ isModule h h.N d t

def r8 (h : HT) (ap an d : Int) : Prop := h.p = ap ∧ d = an

end Go.V

namespace Go.Proofs.YtkmfdhicjaccaaaGreat

open Go.V

variable [BW]

set_option linter.unusedSimpArgs false

set_option linter.unusedVariables false

set_option maxHeartbeats 4000000

end Go.Proofs.YtkmfdhicjaccaaaGreat
