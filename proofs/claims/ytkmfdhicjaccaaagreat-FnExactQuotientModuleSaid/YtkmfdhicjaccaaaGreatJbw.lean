/- What a law does with a list and a module that it is given. -/
import Derived.Test.YtkmfdhicjaccaaaGreatJbn
import Derived.Test.YtkmfdhicjaccaaaGreatJbv
import Derived.Test.YtkmfdhicjaccaaaGreatJam
set_option linter.unusedSectionVars false
set_option linter.unusedVariables false
set_option linter.unusedSimpArgs false

namespace Go.V

set_option linter.unusedSimpArgs false

set_option linter.unusedVariables false

/-- The room behind so many vectors. -/
def rmb (k : Nat) : Nat := if k % 6 = 5 then 0 else if k % 3 = 0 then 1 else k

theorem rmb_le (k : Nat) : rmb k ≤ k + 1 := by unfold rmb; split <;> (try split) <;> omega

/-- A list that has been copied, with what fills the room. -/
def tvC (f : Nat → Int) (len : Nat) (q : Nat) : SV := .int .u8 (if q < 8 * len then f q else if q % 8 = 0 then 201 else 0)

def tvP (f : Nat → Int) (i : Nat) (q : Nat) : SV := .int .u8 (if q < 8 * i then f q else 0)

def tvQ (f : Nat → Int) (len j : Nat) (q : Nat) : SV := .int .u8 (if q < 8 * len then f q else if q < 8 * j then (if q % 8 = 0 then 201 else 0) else 0)

theorem tvP_step (f : Nat → Int) (i q : Nat) {r : Nat → Int} (hr : ∀ y, y < 8 → r y = f (8 * i + y)) : splice (tvP f i) (i * 8) 8 (bys r) q = tvP f (i + 1) q := by
  unfold splice tvP bys
  by_cases e : i * 8 ≤ q ∧ q < i * 8 + 8
  · rw [if_pos e, if_pos (by omega), hr _ (by omega), show 8 * i + (q - i * 8) = q by omega]
  · rw [if_neg e]
    by_cases e2 : q < 8 * i
    · rw [if_pos e2, if_pos (by omega)]
    · rw [if_neg e2, if_neg (by omega)]

theorem tvQ_step (f : Nat → Int) (len j q : Nat) {c : Nat → SV} (hl : len ≤ j) (hc : ∀ y, y < 8 → c y = .int .u8 (if y = 0 then 201 else 0)) : splice (tvQ f len j) (j * 8) 8 c q = tvQ f len (j + 1) q := by
  unfold splice tvQ
  by_cases e : j * 8 ≤ q ∧ q < j * 8 + 8
  · rw [if_pos e, hc _ (by omega)]
    refine congrArg (SV.int .u8) ?_
    rw [if_neg (show ¬q < 8 * len by omega), if_pos (show q < 8 * (j + 1) by omega)]
    by_cases e2 : q % 8 = 0
    · rw [if_pos (show q - j * 8 = 0 by omega), if_pos e2]
    · rw [if_neg (show ¬q - j * 8 = 0 by omega), if_neg e2]
  · rw [if_neg e]
    refine congrArg (SV.int .u8) ?_
    by_cases e2 : q < 8 * len
    · rw [if_pos e2, if_pos e2]
    · rw [if_neg e2, if_neg e2]
      by_cases e3 : q < 8 * j
      · rw [if_pos e3, if_pos (show q < 8 * (j + 1) by omega)]
      · rw [if_neg e3, if_neg (show ¬q < 8 * (j + 1) by omega)]

end Go.V

namespace Go.Proofs.YtkmfdhicjaccaaaGreat

open Go.V

variable [BW]

set_option linter.unusedSimpArgs false

set_option linter.unusedVariables false

set_option maxHeartbeats 4000000

/-- laws.eqLinear -/
def ir73 : Cd := (.seq (.reg [⟨some 2,none,.box 33 (.t 0)⟩,⟨some 3,none,.box 33 (.t 1)⟩,⟨some 4,none,.mov (.c (.bool false))⟩]) (.seq (.seq (.reg [⟨some 5,none,.mov (.c (.int .i64 0))⟩]) (.block 0 (.loop (.seq (.seq (.reg [⟨some 6,none,.mov (.t 5)⟩,⟨some 7,none,.bin .lss (.t 6) (.c (.int .i64 8))⟩]) (.cond (.t 7) .skip (.exit 0))) (.seq (.block 1 (.seq (.drw true [6] [⟨some 10,none,.mov (.t 5)⟩,⟨some 11,none,.ia 8 8 (.t 2) (.t 10)⟩,⟨some 12,none,.ld (some 8) (.t 11)⟩,⟨some 13,none,.mov (.t 5)⟩,⟨some 14,none,.ia 8 8 (.t 3) (.t 13)⟩,⟨some 15,none,.ld (some 8) (.t 14)⟩,⟨some 16,none,.call 54 [(.t 12),(.t 15)]⟩,⟨some 17,none,.un .not (.t 16)⟩]) (.cond (.t 17) (.seq (.reg [⟨some 4,none,.mov (.c (.bool false))⟩]) .ret) .skip))) (.reg [⟨some 8,none,.mov (.t 5)⟩,⟨some 9,none,.bin .add (.t 8) (.c (.int .i64 1))⟩,⟨some 5,none,.mov (.t 9)⟩])))))) (.seq (.reg [⟨some 4,none,.mov (.c (.bool true))⟩]) .ret)))

set_option maxRecDepth 100000 in
theorem tr73 : trFn Tryz.prog Tryz.f73 = some (18, ir73, [.tmp 4]) := by kernel_rfl

theorem laws_eqLinear (f g : Nat → Int) (H : Hp) (n : Nat) :
    FnS Tryz.prog 73 [.arr 64 (bys f), .arr 64 (bys g)] H n (fun r H' _ => r = bl (tb (∀ q, q < 64 → f q = g q)) ∧ H' = H) := by
  refine FnS.of_body Tryz.func73 tr73 (by simp) (fun hf => ?_)
  dsimp only [argEnv]
  unfold ir73
  (repeat first|refine zG ?_|(refine LS.nilO ?_;intro nq hnq hltq;try refine zU ?_)|(refine MS.new ?_;intro bq hbq hbqf;try refine zU ?_)|(refine MS.nil ?_;intro nq hnq hltq;have hlq:=hltq _ _ (Hp.get_eq _ _ _);clear hltq;try refine zU ?_)|(refine LS.nilQ ?_;try with_reducible intro nq hnq;try refine zU ?_))
  refine CS.iter 8 (fun i => [(5, i64 i), (2, ptr n 0), (3, ptr (n + 1) 0)]) (fun _ => (n + 1, ⟨64, bys g, 33⟩) :: (n, ⟨64, bys f, 33⟩) :: H) (fun i => ∀ q, q < 8 * i → f q = g q) (by (repeat first | exact trivial | refine And.intro rfl ?_)) (by exact zD) (fun _ h => by omega) ?_
  intro i n1 hi hn hJ
  (repeat first|refine zG ?_|(refine LS.nilO ?_;intro nq hnq hltq;try refine zU ?_)|(refine MS.new ?_;intro bq hbq hbqf;try refine zU ?_)|(refine MS.nil ?_;intro nq hnq hltq;have hlq:=hltq _ _ (Hp.get_eq _ _ _);clear hltq;try refine zU ?_)|(refine LS.nilQ ?_;try with_reducible intro nq hnq;try refine zU ?_))
  refine zI ?_ ?_<;>intro h1
  · have hr : ∀ q, q < 8 → (bys f) (8 * i + q) = .int .u8 (f (8 * i + q)) := fun q hq => rfl
    have hr2 : ∀ q, q < 8 → (bys g) (8 * i + q) = .int .u8 (g (8 * i + q)) := fun q hq => rfl
    (repeat first|refine zG ?_|(refine LS.nilO ?_;intro nq hnq hltq;try refine zU ?_)|(refine MS.new ?_;intro bq hbq hbqf;try refine zU ?_)|(refine MS.nil ?_;intro nq hnq hltq;have hlq:=hltq _ _ (Hp.get_eq _ _ _);clear hltq;try refine zU ?_)|(refine LS.nilQ ?_;try with_reducible intro nq hnq;try refine zU ?_))
    refine RS.call rfl ((laws_eqVector (fun x => f (8 * i + x)) (fun x => g (8 * i + x)) _ _).mono ?_)
    rintro r H' n2 hn2 ⟨rfl, rfl⟩
    (repeat first|refine zG ?_|(refine LS.nilO ?_;intro nq hnq hltq;try refine zU ?_)|(refine MS.new ?_;intro bq hbq hbqf;try refine zU ?_)|(refine MS.nil ?_;intro nq hnq hltq;have hlq:=hltq _ _ (Hp.get_eq _ _ _);clear hltq;try refine zU ?_)|(refine LS.nilQ ?_;try with_reducible intro nq hnq;try refine zU ?_))
    refine zI ?_ ?_<;>intro h2
    · (repeat first|refine zG ?_|(refine LS.nilO ?_;intro nq hnq hltq;try refine zU ?_)|(refine MS.new ?_;intro bq hbq hbqf;try refine zU ?_)|(refine MS.nil ?_;intro nq hnq hltq;have hlq:=hltq _ _ (Hp.get_eq _ _ _);clear hltq;try refine zU ?_)|(refine LS.nilQ ?_;try with_reducible intro nq hnq;try refine zU ?_))
      exact ⟨_, H, rfl, by exact zD, by rw [tb_false (fun q => h2 (fun x hx => q _ (by omega)))], rfl⟩
    · (repeat first|refine zG ?_|(refine LS.nilO ?_;intro nq hnq hltq;try refine zU ?_)|(refine MS.new ?_;intro bq hbq hbqf;try refine zU ?_)|(refine MS.nil ?_;intro nq hnq hltq;have hlq:=hltq _ _ (Hp.get_eq _ _ _);clear hltq;try refine zU ?_)|(refine LS.nilQ ?_;try with_reducible intro nq hnq;try refine zU ?_))
      refine ⟨by omega, by (repeat first | exact trivial | refine And.intro rfl ?_), by exact zD, fun q hq => ?_⟩
      by_cases e : q < 8 * i
      · exact hJ q e
      · have := h2 (q - 8 * i) (by omega)
        rwa [show 8 * i + (q - 8 * i) = q by omega] at this
  · have : i = 8 := by omega
    subst this
    (repeat first|refine zG ?_|(refine LS.nilO ?_;intro nq hnq hltq;try refine zU ?_)|(refine MS.new ?_;intro bq hbq hbqf;try refine zU ?_)|(refine MS.nil ?_;intro nq hnq hltq;have hlq:=hltq _ _ (Hp.get_eq _ _ _);clear hltq;try refine zU ?_)|(refine LS.nilQ ?_;try with_reducible intro nq hnq;try refine zU ?_))
    exact ⟨_, H, rfl, by exact zD, by rw [tb_true (show ∀ q, q < 64 → f q = g q from hJ)], rfl⟩

/-- laws.toLinearA8 -/
def ir26 : Cd := (.seq (.reg [⟨some 1,none,.box 24 (.t 0)⟩,⟨some 2,none,.new 34 [(512,(.int .u8 0))]⟩]) (.seq (.reg [⟨some 3,none,.new 34 [(512,(.int .u8 0))]⟩]) (.seq (.seq (.reg [⟨some 4,none,.mov (.c (.int .i64 0))⟩]) (.block 0 (.loop (.seq (.seq (.reg [⟨some 5,none,.mov (.t 4)⟩,⟨some 6,none,.bin .lss (.t 5) (.c (.int .i64 8))⟩]) (.cond (.t 6) .skip (.exit 0))) (.seq (.block 1 (.reg [⟨some 9,none,.mov (.t 4)⟩,⟨some 10,none,.mov (.t 4)⟩,⟨some 11,none,.ia 8 64 (.t 1) (.t 10)⟩,⟨some 12,none,.ld (some 64) (.t 11)⟩,⟨some 13,none,.call 25 [(.t 12)]⟩,⟨some 14,none,.ia 8 64 (.t 3) (.t 9)⟩,⟨none,none,.st 64 (.t 14) (.t 13)⟩])) (.reg [⟨some 7,none,.mov (.t 4)⟩,⟨some 8,none,.bin .add (.t 7) (.c (.int .i64 1))⟩,⟨some 4,none,.mov (.t 8)⟩])))))) (.seq (.reg [⟨some 15,none,.ld (some 512) (.t 3)⟩,⟨none,none,.st 512 (.t 2) (.t 15)⟩]) .ret))))

set_option maxRecDepth 100000 in
theorem tr26 : trFn Tryz.prog Tryz.f26 = some (16, ir26, [.cell (some 512) 2]) := by kernel_rfl

theorem laws_toLinearA8 (t : Nat → Int) (H : Hp) (n : Nat) :
    FnS Tryz.prog 26 [.arr 512 (bys t)] H n (fun r H' _ => r = .arr 512 (bys t) ∧ H' = H) := by
  refine FnS.of_body Tryz.func26 tr26 (by simp) (fun hf => ?_)
  dsimp only [argEnv]
  unfold ir26
  (refine zG ?_)
  refine CS.iter 8 (fun i => [(4, i64 i), (1, ptr n 0), (2, ptr (n + 1) 0), (3, ptr (n + 2) 0)])
    (fun i => (n + 2, ⟨512, bys (tabsTo (fun _ => 0) t i), 34⟩) :: (n + 1, ⟨512, bys (fun _ => 0), 34⟩) :: (n, ⟨512, bys t, 24⟩) :: H) (fun _ => True) (by (repeat first | exact trivial | refine And.intro rfl ?_))
    (Drops.keepc rfl rfl (fun _ _ => by rw [tabsTo_zero]; rfl) (Drops.keepc rfl rfl (fun _ _ => rfl) (Drops.refl _ _))) trivial ?_
  intro i n1 hi hn _
  (refine zG ?_)
  refine zI ?_ ?_<;>intro h1
  · have hr : ∀ q, q < 64 → (bys t) (64 * i + q) = .int .u8 (t (64 * i + q)) := fun q hq => rfl
    (refine zG ?_)
    refine RS.call rfl ((laws_toLinear (fun x => t (64 * i + x)) _ _).mono ?_)
    rintro r H' n2 hn2 ⟨rfl, rfl⟩
    (refine zG ?_)
    exact ⟨by omega, by (repeat first | exact trivial | refine And.intro rfl ?_), Drops.keepc rfl rfl (fun q hq => tabsTo_step (fun y hy => rfl) q) (Drops.refl _ _), trivial⟩
  · have : i = 8 := by omega
    subst this
    (refine zG ?_)
    exact ⟨.arr 512 (bys t), H, conc_arr (fun q hq => by simp only [Nat.zero_add, bys, tabsTo]; rw [if_pos (by omega)]), by exact zD, rfl, rfl⟩

/-- laws.toModule -/
def ir8 : Cd := (.seq (.reg [⟨some 1,none,.box 28 (.t 0)⟩,⟨some 2,none,.new 36 [(1,(.int .i64 0)),(512,(.int .u8 0))]⟩]) (.seq (.reg [⟨some 3,none,.new 36 [(1,(.int .i64 0)),(512,(.int .u8 0))]⟩]) (.seq (.reg [⟨some 4,none,.fa 0 (.t 1)⟩,⟨some 5,none,.ld none (.t 4)⟩,⟨some 6,none,.fa 0 (.t 3)⟩,⟨none,none,.st 1 (.t 6) (.t 5)⟩]) (.seq (.reg [⟨some 7,none,.fa 1 (.t 1)⟩,⟨some 8,none,.ld (some 512) (.t 7)⟩,⟨some 9,none,.call 26 [(.t 8)]⟩,⟨some 10,none,.fa 1 (.t 3)⟩,⟨none,none,.st 512 (.t 10) (.t 9)⟩]) (.seq (.reg [⟨some 11,none,.ld (some 513) (.t 3)⟩,⟨none,none,.st 513 (.t 2) (.t 11)⟩]) .ret)))))

set_option maxRecDepth 100000 in
theorem tr8 : trFn Tryz.prog Tryz.f8 = some (12, ir8, [.cell (some 513) 2]) := by kernel_rfl

theorem laws_toModule (d : Int) (t : Nat → Int) (K : Nat → SV) (H : Hp) (n : Nat) (k0 : K 0 = .int .i64 d) (k1 : ∀ q, q < 512 → K (1 + q) = .int .u8 (t q)) :
    FnS Tryz.prog 8 [.arr 513 K] H n (fun r H' _ => r = .arr 513 K ∧ H' = H) := by
  refine FnS.of_body Tryz.func8 tr8 (by simp) (fun hf => ?_)
  dsimp only [argEnv]
  unfold ir8
  (refine zG ?_)
  refine RS.call rfl ((laws_toLinearA8 t _ _).mono ?_)
  rintro r H' n2 hn2 ⟨rfl, rfl⟩
  (refine zG ?_)
  refine ⟨.arr 513 K, H, conc_arr (fun q hq => ?_), by exact zD, rfl, rfl⟩
  simp only [Nat.zero_add, splice, put1]
  by_cases e0 : q < 1
  · obtain rfl : q = 0 := by omega
    rw [if_neg (by omega), if_pos rfl]; exact k0.symm
  · rw [if_pos (by omega)]
    have := k1 (q - 1) (by omega)
    rw [show 1 + (q - 1) = q by omega] at this
    rw [this]; rfl

/-- laws.eqLinearA8 -/
def ir37 : Cd := (.seq (.reg [⟨some 2,none,.box 34 (.t 0)⟩,⟨some 3,none,.box 34 (.t 1)⟩,⟨some 4,none,.mov (.c (.bool false))⟩]) (.seq (.seq (.reg [⟨some 5,none,.mov (.c (.int .i64 0))⟩]) (.block 0 (.loop (.seq (.seq (.reg [⟨some 6,none,.mov (.t 5)⟩,⟨some 7,none,.bin .lss (.t 6) (.c (.int .i64 8))⟩]) (.cond (.t 7) .skip (.exit 0))) (.seq (.block 1 (.seq (.drw true [6] [⟨some 10,none,.mov (.t 5)⟩,⟨some 11,none,.ia 8 64 (.t 2) (.t 10)⟩,⟨some 12,none,.ld (some 64) (.t 11)⟩,⟨some 13,none,.mov (.t 5)⟩,⟨some 14,none,.ia 8 64 (.t 3) (.t 13)⟩,⟨some 15,none,.ld (some 64) (.t 14)⟩,⟨some 16,none,.call 73 [(.t 12),(.t 15)]⟩,⟨some 17,none,.un .not (.t 16)⟩]) (.cond (.t 17) (.seq (.reg [⟨some 4,none,.mov (.c (.bool false))⟩]) .ret) .skip))) (.reg [⟨some 8,none,.mov (.t 5)⟩,⟨some 9,none,.bin .add (.t 8) (.c (.int .i64 1))⟩,⟨some 5,none,.mov (.t 9)⟩])))))) (.seq (.reg [⟨some 4,none,.mov (.c (.bool true))⟩]) .ret)))

set_option maxRecDepth 100000 in
theorem tr37 : trFn Tryz.prog Tryz.f37 = some (18, ir37, [.tmp 4]) := by kernel_rfl

theorem laws_eqLinearA8 (t : Nat → Int) (H : Hp) (n : Nat) :
    FnS Tryz.prog 37 [.arr 512 (bys t), .arr 512 (bys t)] H n (fun r H' _ => r = bl true ∧ H' = H) := by
  refine FnS.of_body Tryz.func37 tr37 (by simp) (fun hf => ?_)
  dsimp only [argEnv]
  unfold ir37
  (repeat first|refine zG ?_|(refine LS.nilO ?_;intro nq hnq hltq;try refine zU ?_)|(refine MS.new ?_;intro bq hbq hbqf;try refine zU ?_)|(refine MS.nil ?_;intro nq hnq hltq;have hlq:=hltq _ _ (Hp.get_eq _ _ _);clear hltq;try refine zU ?_)|(refine LS.nilQ ?_;try with_reducible intro nq hnq;try refine zU ?_))
  refine CS.iter 8 (fun i => [(5, i64 i), (2, ptr n 0), (3, ptr (n + 1) 0)]) (fun _ => (n + 1, ⟨512, bys t, 34⟩) :: (n, ⟨512, bys t, 34⟩) :: H) (fun i => True) (by (repeat first | exact trivial | refine And.intro rfl ?_)) (by exact zD) trivial ?_
  intro i n1 hi hn hJ
  (repeat first|refine zG ?_|(refine LS.nilO ?_;intro nq hnq hltq;try refine zU ?_)|(refine MS.new ?_;intro bq hbq hbqf;try refine zU ?_)|(refine MS.nil ?_;intro nq hnq hltq;have hlq:=hltq _ _ (Hp.get_eq _ _ _);clear hltq;try refine zU ?_)|(refine LS.nilQ ?_;try with_reducible intro nq hnq;try refine zU ?_))
  refine zI ?_ ?_<;>intro h1
  · have hr : ∀ q, q < 64 → (bys t) (64 * i + q) = .int .u8 (t (64 * i + q)) := fun q hq => rfl
    (repeat first|refine zG ?_|(refine LS.nilO ?_;intro nq hnq hltq;try refine zU ?_)|(refine MS.new ?_;intro bq hbq hbqf;try refine zU ?_)|(refine MS.nil ?_;intro nq hnq hltq;have hlq:=hltq _ _ (Hp.get_eq _ _ _);clear hltq;try refine zU ?_)|(refine LS.nilQ ?_;try with_reducible intro nq hnq;try refine zU ?_))
    refine RS.call rfl ((laws_eqLinear (fun x => t (64 * i + x)) (fun x => t (64 * i + x)) _ _).mono ?_)
    rintro r H' n2 hn2 ⟨rfl, rfl⟩
    rw [tb_true (fun _ _ => rfl)]
    (repeat first|refine zG ?_|(refine LS.nilO ?_;intro nq hnq hltq;try refine zU ?_)|(refine MS.new ?_;intro bq hbq hbqf;try refine zU ?_)|(refine MS.nil ?_;intro nq hnq hltq;have hlq:=hltq _ _ (Hp.get_eq _ _ _);clear hltq;try refine zU ?_)|(refine LS.nilQ ?_;try with_reducible intro nq hnq;try refine zU ?_))
    exact ⟨by omega, by (repeat first | exact trivial | refine And.intro rfl ?_), by exact zD, trivial⟩
  · obtain rfl : i = 8 := by omega
    (repeat first|refine zG ?_|(refine LS.nilO ?_;intro nq hnq hltq;try refine zU ?_)|(refine MS.new ?_;intro bq hbq hbqf;try refine zU ?_)|(refine MS.nil ?_;intro nq hnq hltq;have hlq:=hltq _ _ (Hp.get_eq _ _ _);clear hltq;try refine zU ?_)|(refine LS.nilQ ?_;try with_reducible intro nq hnq;try refine zU ?_))
    exact ⟨_, H, rfl, by exact zD, rfl, rfl⟩

/-- laws.eqModule -/
def ir11 : Cd := (.seq (.reg [⟨some 2,none,.box 36 (.t 0)⟩,⟨some 3,none,.box 36 (.t 1)⟩,⟨some 4,none,.mov (.c (.bool false))⟩]) (.seq (.seq (.reg [⟨some 5,none,.fa 0 (.t 2)⟩,⟨some 6,none,.ld none (.t 5)⟩,⟨some 7,none,.fa 0 (.t 3)⟩,⟨some 8,none,.ld none (.t 7)⟩,⟨some 9,none,.bin .neq (.t 6) (.t 8)⟩]) (.cond (.t 9) (.seq (.reg [⟨some 4,none,.mov (.c (.bool false))⟩]) .ret) .skip)) (.seq (.seq (.reg [⟨some 10,none,.fa 1 (.t 2)⟩,⟨some 11,none,.ld (some 512) (.t 10)⟩,⟨some 12,none,.fa 1 (.t 3)⟩,⟨some 13,none,.ld (some 512) (.t 12)⟩,⟨some 14,none,.call 37 [(.t 11),(.t 13)]⟩,⟨some 15,none,.un .not (.t 14)⟩]) (.cond (.t 15) (.seq (.reg [⟨some 4,none,.mov (.c (.bool false))⟩]) .ret) .skip)) (.seq (.reg [⟨some 4,none,.mov (.c (.bool true))⟩]) .ret))))

set_option maxRecDepth 100000 in
theorem tr11 : trFn Tryz.prog Tryz.f11 = some (16, ir11, [.tmp 4]) := by kernel_rfl

theorem laws_eqModule (d : Int) (t : Nat → Int) (H : Hp) (n : Nat) :
    FnS Tryz.prog 11 [.arr 513 (modC d t), .arr 513 (modC d t)] H n (fun r H' _ => r = bl true ∧ H' = H) := by
  have a0 : modC d t 0 = .int .i64 d := rfl
  have a1 : ∀ q, q < 512 → modC d t (0 + 1 + q) = .int .u8 (t q) := fun q hq => by
    unfold modC; rw [if_neg (by omega), show 0 + 1 + q - 1 = q by omega]
  have a1' : ∀ q, q < 512 → modC d t (1 + q) = .int .u8 (t q) := fun q hq => by
    unfold modC; rw [if_neg (by omega), show 1 + q - 1 = q by omega]
  refine FnS.of_body Tryz.func11 tr11 (by simp) (fun hf => ?_)
  dsimp only [argEnv]
  unfold ir11
  (repeat first|refine zG ?_|(refine LS.nilO ?_;intro nq hnq hltq;try refine zU ?_)|(refine MS.new ?_;intro bq hbq hbqf;try refine zU ?_)|(refine MS.nil ?_;intro nq hnq hltq;have hlq:=hltq _ _ (Hp.get_eq _ _ _);clear hltq;try refine zU ?_)|(refine LS.nilQ ?_;try with_reducible intro nq hnq;try refine zU ?_))
  simp only [bne_self_eq_false]
  (repeat first|refine zG ?_|(refine LS.nilO ?_;intro nq hnq hltq;try refine zU ?_)|(refine MS.new ?_;intro bq hbq hbqf;try refine zU ?_)|(refine MS.nil ?_;intro nq hnq hltq;have hlq:=hltq _ _ (Hp.get_eq _ _ _);clear hltq;try refine zU ?_)|(refine LS.nilQ ?_;try with_reducible intro nq hnq;try refine zU ?_))
  refine RS.call rfl ((laws_eqLinearA8 t _ _).mono ?_)
  rintro r H' n2 hn2 ⟨rfl, rfl⟩
  (repeat first|refine zG ?_|(refine LS.nilO ?_;intro nq hnq hltq;try refine zU ?_)|(refine MS.new ?_;intro bq hbq hbqf;try refine zU ?_)|(refine MS.nil ?_;intro nq hnq hltq;have hlq:=hltq _ _ (Hp.get_eq _ _ _);clear hltq;try refine zU ?_)|(refine LS.nilQ ?_;try with_reducible intro nq hnq;try refine zU ?_))
  exact ⟨_, H, rfl, by exact zD, rfl, rfl⟩

/-- laws.roomBehind -/
def ir27 : Cd := (.seq (.reg [⟨some 2,none,.mov (.c (.int .i64 0))⟩]) (.seq (.seq (.reg [⟨some 3,none,.mov (.t 0)⟩,⟨some 4,none,.bin .rem (.t 3) (.c (.int .i64 6))⟩,⟨some 5,none,.bin .eql (.t 4) (.c (.int .i64 5))⟩]) (.cond (.t 5) (.seq (.reg [⟨some 2,none,.mov (.c (.int .i64 0))⟩]) .ret) .skip)) (.seq (.seq (.reg [⟨some 6,none,.mov (.t 0)⟩,⟨some 7,none,.bin .rem (.t 6) (.c (.int .i64 3))⟩,⟨some 8,none,.bin .eql (.t 7) (.c (.int .i64 0))⟩]) (.cond (.t 8) (.seq (.reg [⟨some 2,none,.mov (.c (.int .i64 1))⟩]) .ret) .skip)) (.seq (.reg [⟨some 9,none,.mov (.t 0)⟩,⟨some 2,none,.mov (.t 9)⟩]) .ret))))

set_option maxRecDepth 100000 in
theorem tr27 : trFn Tryz.prog Tryz.f27 = some (10, ir27, [.tmp 2]) := by kernel_rfl

theorem laws_roomBehind (k : Nat) (H : Hp) (n : Nat) (hk : k ≤ 4000000) :
    FnS Tryz.prog 27 [i64 (k : Nat)] H n (fun r H' _ => r = i64 (rmb k : Nat) ∧ H' = H) := by
  refine FnS.of_body Tryz.func27 tr27 (by simp) (fun hf => ?_)
  dsimp only [argEnv]
  unfold ir27
  (repeat first|refine zG ?_|(refine LS.nilO ?_;intro nq hnq hltq;try refine zU ?_)|(refine MS.new ?_;intro bq hbq hbqf;try refine zU ?_)|(refine MS.nil ?_;intro nq hnq hltq;have hlq:=hltq _ _ (Hp.get_eq _ _ _);clear hltq;try refine zU ?_)|(refine LS.nilQ ?_;try with_reducible intro nq hnq;try refine zU ?_))
  refine zI ?_ ?_<;>intro h1
  · (repeat first|refine zG ?_|(refine LS.nilO ?_;intro nq hnq hltq;try refine zU ?_)|(refine MS.new ?_;intro bq hbq hbqf;try refine zU ?_)|(refine MS.nil ?_;intro nq hnq hltq;have hlq:=hltq _ _ (Hp.get_eq _ _ _);clear hltq;try refine zU ?_)|(refine LS.nilQ ?_;try with_reducible intro nq hnq;try refine zU ?_))
    exact ⟨_, H, rfl, by exact zD, by unfold rmb; rw [if_pos (by omega)]; rfl, rfl⟩
  (repeat first|refine zG ?_|(refine LS.nilO ?_;intro nq hnq hltq;try refine zU ?_)|(refine MS.new ?_;intro bq hbq hbqf;try refine zU ?_)|(refine MS.nil ?_;intro nq hnq hltq;have hlq:=hltq _ _ (Hp.get_eq _ _ _);clear hltq;try refine zU ?_)|(refine LS.nilQ ?_;try with_reducible intro nq hnq;try refine zU ?_))
  refine zI ?_ ?_<;>intro h2
  · (repeat first|refine zG ?_|(refine LS.nilO ?_;intro nq hnq hltq;try refine zU ?_)|(refine MS.new ?_;intro bq hbq hbqf;try refine zU ?_)|(refine MS.nil ?_;intro nq hnq hltq;have hlq:=hltq _ _ (Hp.get_eq _ _ _);clear hltq;try refine zU ?_)|(refine LS.nilQ ?_;try with_reducible intro nq hnq;try refine zU ?_))
    exact ⟨_, H, rfl, by exact zD, by unfold rmb; rw [if_neg (by omega), if_pos (by omega)]; rfl, rfl⟩
  (repeat first|refine zG ?_|(refine LS.nilO ?_;intro nq hnq hltq;try refine zU ?_)|(refine MS.new ?_;intro bq hbq hbqf;try refine zU ?_)|(refine MS.nil ?_;intro nq hnq hltq;have hlq:=hltq _ _ (Hp.get_eq _ _ _);clear hltq;try refine zU ?_)|(refine LS.nilQ ?_;try with_reducible intro nq hnq;try refine zU ?_))
  exact ⟨_, H, rfl, by exact zD, by unfold rmb; rw [if_neg (by omega), if_neg (by omega)], rfl⟩

/-- laws.szVectorS -/
def ir5 : Cd := (.seq (.reg [⟨some 4,none,.mov (.c (.int .i64 0))⟩]) (.seq (.reg [⟨some 5,none,.mov (.t 1)⟩,⟨some 6,none,.mov (.t 0)⟩,⟨some 7,none,.len (.t 6)⟩,⟨some 8,none,.bin .sub (.t 5) (.t 7)⟩,⟨some 1,none,.mov (.t 8)⟩]) (.seq (.seq (.reg [⟨some 9,none,.mov (.t 1)⟩,⟨some 10,none,.bin .lss (.t 9) (.c (.int .i64 0))⟩]) (.cond (.t 10) (.seq (.reg [⟨some 4,none,.mov (.c (.int .i64 (-1)))⟩]) .ret) .skip)) (.seq (.reg [⟨some 11,none,.mov (.t 1)⟩,⟨some 4,none,.mov (.t 11)⟩]) .ret))))

set_option maxRecDepth 100000 in
theorem tr5 : trFn Tryz.prog Tryz.f5 = some (12, ir5, [.tmp 4]) := by kernel_rfl

theorem laws_szVectorS (m : Nat) (sv : SV) (len : Nat) (f : Nat → Int) (H : Hp) (n : Nat) (hl : len ≤ 9223372036854775807) (hR : RA m 8 sv len f) :
    FnS Tryz.prog 5 [.s sv, i64 1000000] H n (fun r H' _ => r = i64 (if len ≤ 1000000 then 1000000 - (len : Int) else -1) ∧ H' = H) := by
  refine FnS.of_body Tryz.func5 tr5 (by simp) (fun hf => ?_)
  dsimp only [argEnv]
  unfold ir5
  rcases hR with ⟨rfl, rfl⟩ | ⟨b, o, cap, rfl, h1, h2, h3⟩
  · (repeat first|refine zG ?_|(refine LS.nilO ?_;intro nq hnq hltq;try refine zU ?_)|(refine MS.new ?_;intro bq hbq hbqf;try refine zU ?_)|(refine MS.nil ?_;intro nq hnq hltq;have hlq:=hltq _ _ (Hp.get_eq _ _ _);clear hltq;try refine zU ?_)|(refine LS.nilQ ?_;try with_reducible intro nq hnq;try refine zU ?_))
    exact ⟨_, H, rfl, by exact zD, rfl, rfl⟩
  · (repeat first|refine zG ?_|(refine LS.nilO ?_;intro nq hnq hltq;try refine zU ?_)|(refine MS.new ?_;intro bq hbq hbqf;try refine zU ?_)|(refine MS.nil ?_;intro nq hnq hltq;have hlq:=hltq _ _ (Hp.get_eq _ _ _);clear hltq;try refine zU ?_)|(refine LS.nilQ ?_;try with_reducible intro nq hnq;try refine zU ?_))
    refine zI ?_ ?_<;>intro h1
    · (repeat first|refine zG ?_|(refine LS.nilO ?_;intro nq hnq hltq;try refine zU ?_)|(refine MS.new ?_;intro bq hbq hbqf;try refine zU ?_)|(refine MS.nil ?_;intro nq hnq hltq;have hlq:=hltq _ _ (Hp.get_eq _ _ _);clear hltq;try refine zU ?_)|(refine LS.nilQ ?_;try with_reducible intro nq hnq;try refine zU ?_))
      exact ⟨_, H, rfl, by exact zD, by rw [if_neg (by omega)], rfl⟩
    (repeat first|refine zG ?_|(refine LS.nilO ?_;intro nq hnq hltq;try refine zU ?_)|(refine MS.new ?_;intro bq hbq hbqf;try refine zU ?_)|(refine MS.nil ?_;intro nq hnq hltq;have hlq:=hltq _ _ (Hp.get_eq _ _ _);clear hltq;try refine zU ?_)|(refine LS.nilQ ?_;try with_reducible intro nq hnq;try refine zU ?_))
    exact ⟨_, H, rfl, by exact zD, by rw [if_pos (by omega)], rfl⟩

end Go.Proofs.YtkmfdhicjaccaaaGreat

/- A list from a law's argument, and whether it is intact. -/

namespace Go.V

variable [BW]

set_option linter.unusedSimpArgs false

set_option linter.unusedVariables false

theorem zs8 {y : Nat} (hy : y < 8) : Zs.c [(8, SV.int IntKind.u8 0)] y = .int .u8 0 := by
  rcases (show y = 0 ∨ y = 1 ∨ y = 2 ∨ y = 3 ∨ y = 4 ∨ y = 5 ∨ y = 6 ∨ y = 7 by omega) with rfl | rfl | rfl | rfl | rfl | rfl | rfl | rfl <;> rfl

section

variable {P : Program} {N mm : Nat} {e : Env} {H : Hp} {n : Nat} {l : List Ins} {d : Option Nat} {D : Md}

theorem RS.lenRA {x : X} {m z : Nat} {sv : SV} {len : Nat} {f : Nat → Int} (hx : x.ev e = some (.s sv)) (hR : RA m z sv len f) (h : LS P N mm D l (putD d (.s (.int .i64 (len : Nat))) e) H n) : LS P N mm D (⟨d, none, .len x⟩ :: l) e H n := by
  rcases hR with ⟨rfl, rfl⟩ | ⟨b, o, cap, rfl, _⟩
  · exact RS.len0 hx h
  · exact RS.len hx h

end

end Go.V

namespace Go.Proofs.YtkmfdhicjaccaaaGreat

open Go.V

variable [BW]

set_option linter.unusedSimpArgs false

set_option linter.unusedVariables false

set_option maxHeartbeats 4000000

/-- laws.toVectorS -/
def ir9 : Cd := (.seq (.reg [⟨some 4,none,.mov (.c .nils)⟩]) (.seq (.seq (.reg [⟨some 8,none,.mov (.t 1)⟩,⟨some 9,none,.mov (.t 8)⟩,⟨some 10,(some (9,true)),.mov (.t 0)⟩,⟨some 11,(some (9,true)),.len (.t 10)⟩,⟨some 12,(some (9,true)),.bin .eql (.t 11) (.c (.int .i64 0))⟩,⟨some 13,none,.pick (.t 9) (.t 12) (.c (.bool false))⟩]) (.cond (.t 13) (.seq (.reg [⟨some 4,none,.mov (.c .nils)⟩]) .ret) .skip)) (.seq (.reg [⟨some 14,none,.mov (.t 0)⟩,⟨some 15,none,.len (.t 14)⟩,⟨some 16,none,.mov (.t 0)⟩,⟨some 17,none,.len (.t 16)⟩,⟨some 18,none,.call 27 [(.t 17)]⟩,⟨some 19,none,.bin .add (.t 15) (.t 18)⟩,⟨some 20,none,.mks 31 8 8 [(8,(.int .u8 0))] (.t 19) (.t 19)⟩,⟨some 5,none,.mov (.t 20)⟩]) (.seq (.seq (.reg [⟨some 6,none,.mov (.c (.int .i64 0))⟩]) (.block 0 (.loop (.seq (.seq (.reg [⟨some 21,none,.mov (.t 6)⟩,⟨some 22,none,.mov (.t 0)⟩,⟨some 23,none,.len (.t 22)⟩,⟨some 24,none,.bin .lss (.t 21) (.t 23)⟩]) (.cond (.t 24) .skip (.exit 0))) (.seq (.block 1 (.reg [⟨some 27,none,.mov (.t 5)⟩,⟨some 28,none,.mov (.t 6)⟩,⟨some 29,none,.mov (.t 0)⟩,⟨some 30,none,.mov (.t 6)⟩,⟨some 31,none,.isl 8 (.t 29) (.t 30)⟩,⟨some 32,none,.ld (some 8) (.t 31)⟩,⟨some 33,none,.call 23 [(.t 32)]⟩,⟨some 34,none,.isl 8 (.t 27) (.t 28)⟩,⟨none,none,.st 8 (.t 34) (.t 33)⟩])) (.reg [⟨some 25,none,.mov (.t 6)⟩,⟨some 26,none,.bin .add (.t 25) (.c (.int .i64 1))⟩,⟨some 6,none,.mov (.t 26)⟩])))))) (.seq (.seq (.reg [⟨some 35,none,.mov (.t 0)⟩,⟨some 36,none,.len (.t 35)⟩,⟨some 7,none,.mov (.t 36)⟩]) (.block 2 (.loop (.seq (.seq (.reg [⟨some 37,none,.mov (.t 7)⟩,⟨some 38,none,.mov (.t 5)⟩,⟨some 39,none,.len (.t 38)⟩,⟨some 40,none,.bin .lss (.t 37) (.t 39)⟩]) (.cond (.t 40) .skip (.exit 2))) (.seq (.block 3 (.reg [⟨some 43,none,.mov (.t 5)⟩,⟨some 44,none,.mov (.t 7)⟩,⟨some 45,none,.build 8 [(8,(.int .u8 0))] [(0,1,(.c (.int .u8 201)))]⟩,⟨some 46,none,.isl 8 (.t 43) (.t 44)⟩,⟨none,none,.st 8 (.t 46) (.t 45)⟩])) (.reg [⟨some 41,none,.mov (.t 7)⟩,⟨some 42,none,.bin .add (.t 41) (.c (.int .i64 1))⟩,⟨some 7,none,.mov (.t 42)⟩])))))) (.seq (.reg [⟨some 47,none,.mov (.t 5)⟩,⟨some 48,none,.mov (.t 0)⟩,⟨some 49,none,.len (.t 48)⟩,⟨some 50,none,.sls 8 (.t 47) none (some (.t 49)) none⟩,⟨some 4,none,.mov (.t 50)⟩]) .ret))))))

set_option maxRecDepth 100000 in
theorem tr9 : trFn Tryz.prog Tryz.f9 = some (51, ir9, [.tmp 4]) := by kernel_rfl

theorem laws_toVectorS (m : Nat) (bare : Bool) (sv : SV) (len : Nat) (f : Nat → Int) (H : Hp) (n : Nat) (hl : len ≤ 1000000) (hmn : m ≤ n) (hm : ∀ x, x < m → H.get x = none) (hR : RA m 8 sv len f) :
    FnS Tryz.prog 9 [.s sv, bl bare] H n (fun r H' n' => (bare = true ∧ len = 0 ∧ r = .s .nils ∧ H' = H) ∨ (¬(bare = true ∧ len = 0) ∧ ∃ b', n ≤ b' ∧ b' < n' ∧ r = .s (.slc b' 0 len (len + rmb len)) ∧ H' = (b', ⟨(len + rmb len) * 8, tvC f len, 31⟩) :: H)) := by
  have hrm := rmb_le len
  refine FnS.of_body Tryz.func9 tr9 (by simp) (fun hf => ?_)
  dsimp only [argEnv]
  unfold ir9
  (repeat first|refine zG ?_|(refine LS.nilO ?_;intro nq hnq hltq;try refine zU ?_)|(refine MS.new ?_;intro bq hbq hbqf;try refine zU ?_)|(refine MS.nil ?_;intro nq hnq hltq;have hlq:=hltq _ _ (Hp.get_eq _ _ _);clear hltq;try refine zU ?_)|(refine LS.nilQ ?_;try with_reducible intro nq hnq;try refine zU ?_))
  refine RS.sp (t := 9) rfl (fun h1 => ?_) (fun h1 => ?_) <;> (try simp only [tb_eq, tb_eqF, decide_eq_true_eq, decide_eq_false_iff_not, beq_iff_eq, bne_iff_ne, ne_eq, Decidable.not_not, beq_eq_false_iff_ne, bne_eq_false_iff_eq, Bool.not_eq_true', Bool.not_eq_false', Bool.not_eq_eq_eq_not, Bool.not_true, Bool.not_false] at h1)
  · (repeat first|refine zG ?_|(refine LS.nilO ?_;intro nq hnq hltq;try refine zU ?_)|(refine MS.new ?_;intro bq hbq hbqf;try refine zU ?_)|(refine MS.nil ?_;intro nq hnq hltq;have hlq:=hltq _ _ (Hp.get_eq _ _ _);clear hltq;try refine zU ?_)|(refine LS.nilQ ?_;try with_reducible intro nq hnq;try refine zU ?_))
    refine RS.lenRA (by exact rfl) hR ?_
    (repeat first|refine zG ?_|(refine LS.nilO ?_;intro nq hnq hltq;try refine zU ?_)|(refine MS.new ?_;intro bq hbq hbqf;try refine zU ?_)|(refine MS.nil ?_;intro nq hnq hltq;have hlq:=hltq _ _ (Hp.get_eq _ _ _);clear hltq;try refine zU ?_)|(refine LS.nilQ ?_;try with_reducible intro nq hnq;try refine zU ?_))
    refine zI ?_ ?_<;>intro h2
    · (repeat first|refine zG ?_|(refine LS.nilO ?_;intro nq hnq hltq;try refine zU ?_)|(refine MS.new ?_;intro bq hbq hbqf;try refine zU ?_)|(refine MS.nil ?_;intro nq hnq hltq;have hlq:=hltq _ _ (Hp.get_eq _ _ _);clear hltq;try refine zU ?_)|(refine LS.nilQ ?_;try with_reducible intro nq hnq;try refine zU ?_))
      exact ⟨_, H, rfl, by exact zD, .inl ⟨h1, by omega, rfl, rfl⟩⟩
    (repeat first|refine zG ?_|(refine LS.nilO ?_;intro nq hnq hltq;try refine zU ?_)|(refine MS.new ?_;intro bq hbq hbqf;try refine zU ?_)|(refine MS.nil ?_;intro nq hnq hltq;have hlq:=hltq _ _ (Hp.get_eq _ _ _);clear hltq;try refine zU ?_)|(refine LS.nilQ ?_;try with_reducible intro nq hnq;try refine zU ?_))
    refine RS.lenRA (by exact rfl) hR ?_
    (repeat first|refine zG ?_|(refine LS.nilO ?_;intro nq hnq hltq;try refine zU ?_)|(refine MS.new ?_;intro bq hbq hbqf;try refine zU ?_)|(refine MS.nil ?_;intro nq hnq hltq;have hlq:=hltq _ _ (Hp.get_eq _ _ _);clear hltq;try refine zU ?_)|(refine LS.nilQ ?_;try with_reducible intro nq hnq;try refine zU ?_))
    refine RS.lenRA (by exact rfl) hR ?_
    (repeat first|refine zG ?_|(refine LS.nilO ?_;intro nq hnq hltq;try refine zU ?_)|(refine MS.new ?_;intro bq hbq hbqf;try refine zU ?_)|(refine MS.nil ?_;intro nq hnq hltq;have hlq:=hltq _ _ (Hp.get_eq _ _ _);clear hltq;try refine zU ?_)|(refine LS.nilQ ?_;try with_reducible intro nq hnq;try refine zU ?_))
    refine RS.call rfl ((laws_roomBehind len _ _ (by omega)).mono ?_)
    rintro r H n2 hn2 ⟨rfl, rfl⟩
    (repeat first|refine zG ?_|(refine LS.nilO ?_;intro nq hnq hltq;try refine zU ?_)|(refine MS.new ?_;intro bq hbq hbqf;try refine zU ?_)|(refine MS.nil ?_;intro nq hnq hltq;have hlq:=hltq _ _ (Hp.get_eq _ _ _);clear hltq;try refine zU ?_)|(refine LS.nilQ ?_;try with_reducible intro nq hnq;try refine zU ?_))
    refine RS.mks (len := len + rmb len) (cap := len + rmb len) (by exact rfl) (by exact rfl) (by omega) (by omega) (Nat.le_refl _) (by omega) (by omega) ?_
    (repeat first|refine zG ?_|(refine LS.nilO ?_;intro nq hnq hltq;try refine zU ?_)|(refine MS.new ?_;intro bq hbq hbqf;try refine zU ?_)|(refine MS.nil ?_;intro nq hnq hltq;have hlq:=hltq _ _ (Hp.get_eq _ _ _);clear hltq;try refine zU ?_)|(refine LS.nilQ ?_;try with_reducible intro nq hnq;try refine zU ?_))
    refine CS.iter len (fun i => [(6, i64 (i : Nat)), (0, .s sv), (5, .s (.slc n2 0 (len + rmb len) (len + rmb len)))]) (fun i => (n2, ⟨(len + rmb len) * 8, tvP f i, 31⟩) :: H) (fun _ => True) (by (repeat first | exact trivial | refine And.intro rfl ?_)) (Drops.keepc rfl rfl (fun q hq => ?_) (Drops.refl _ _)) trivial ?_
    · show Zs.c [(8, SV.int .u8 0)] (q % 8) = tvP f 0 q
      unfold tvP
      rw [zs8 (by omega), if_neg (show ¬q < 8 * 0 by omega)]
    intro i n3 hi hn3 _
    (repeat first|refine zG ?_|(refine LS.nilO ?_;intro nq hnq hltq;try refine zU ?_)|(refine MS.new ?_;intro bq hbq hbqf;try refine zU ?_)|(refine MS.nil ?_;intro nq hnq hltq;have hlq:=hltq _ _ (Hp.get_eq _ _ _);clear hltq;try refine zU ?_)|(refine LS.nilQ ?_;try with_reducible intro nq hnq;try refine zU ?_))
    refine RS.lenRA (by exact rfl) hR ?_
    (repeat first|refine zG ?_|(refine LS.nilO ?_;intro nq hnq hltq;try refine zU ?_)|(refine MS.new ?_;intro bq hbq hbqf;try refine zU ?_)|(refine MS.nil ?_;intro nq hnq hltq;have hlq:=hltq _ _ (Hp.get_eq _ _ _);clear hltq;try refine zU ?_)|(refine LS.nilQ ?_;try with_reducible intro nq hnq;try refine zU ?_))
    refine zI ?_ ?_<;>intro h3
    · have hi' : i < len := by omega
      obtain ⟨b, o, cap, rfl, hcap, hbm, hcell⟩ : ∃ b o cap, sv = .slc b o len cap ∧ len ≤ cap ∧ b < m ∧ ∀ i, i < 8 * len → BW.cell b (o + i) = some (.int .u8 (f i)) := by
        rcases hR with ⟨_, q⟩ | ⟨b, o, cap, q⟩
        · omega
        · exact ⟨b, o, cap, q⟩
      (repeat first|refine zG ?_|(refine LS.nilO ?_;intro nq hnq hltq;try refine zU ?_)|(refine MS.new ?_;intro bq hbq hbqf;try refine zU ?_)|(refine MS.nil ?_;intro nq hnq hltq;have hlq:=hltq _ _ (Hp.get_eq _ _ _);clear hltq;try refine zU ?_)|(refine LS.nilQ ?_;try with_reducible intro nq hnq;try refine zU ?_))
      refine RS.rdb (q := i * 8) (z' := 8 * len) (f := f) (by exact rfl) (by rw [Hp.get_ne _ _ (by omega)]; exact hm b hbm) hcell (by omega) ?_
      (repeat first|refine zG ?_|(refine LS.nilO ?_;intro nq hnq hltq;try refine zU ?_)|(refine MS.new ?_;intro bq hbq hbqf;try refine zU ?_)|(refine MS.nil ?_;intro nq hnq hltq;have hlq:=hltq _ _ (Hp.get_eq _ _ _);clear hltq;try refine zU ?_)|(refine LS.nilQ ?_;try with_reducible intro nq hnq;try refine zU ?_))
      refine RS.call rfl ((laws_toVector (fun x => f (i * 8 + x)) _ _).mono ?_)
      rintro r H' n4 hn4 ⟨rfl, rfl⟩
      (repeat first|refine zG ?_|(refine LS.nilO ?_;intro nq hnq hltq;try refine zU ?_)|(refine MS.new ?_;intro bq hbq hbqf;try refine zU ?_)|(refine MS.nil ?_;intro nq hnq hltq;have hlq:=hltq _ _ (Hp.get_eq _ _ _);clear hltq;try refine zU ?_)|(refine LS.nilQ ?_;try with_reducible intro nq hnq;try refine zU ?_))
      refine ⟨by omega, by (repeat first | exact trivial | refine And.intro rfl ?_), Drops.keepc rfl rfl (fun q hq => ?_) (Drops.refl _ _), trivial⟩
      (try simp only [Nat.zero_add])
      exact tvP_step f i q (fun y hy => by (try dsimp only); rw [Nat.mul_comm])
    obtain rfl : len = i := by omega
    (repeat first|refine zG ?_|(refine LS.nilO ?_;intro nq hnq hltq;try refine zU ?_)|(refine MS.new ?_;intro bq hbq hbqf;try refine zU ?_)|(refine MS.nil ?_;intro nq hnq hltq;have hlq:=hltq _ _ (Hp.get_eq _ _ _);clear hltq;try refine zU ?_)|(refine LS.nilQ ?_;try with_reducible intro nq hnq;try refine zU ?_))
    refine RS.lenRA (by exact rfl) hR ?_
    (repeat first|refine zG ?_|(refine LS.nilO ?_;intro nq hnq hltq;try refine zU ?_)|(refine MS.new ?_;intro bq hbq hbqf;try refine zU ?_)|(refine MS.nil ?_;intro nq hnq hltq;have hlq:=hltq _ _ (Hp.get_eq _ _ _);clear hltq;try refine zU ?_)|(refine LS.nilQ ?_;try with_reducible intro nq hnq;try refine zU ?_))
    refine CS.iter (rmb len) (fun j => [(7, i64 ((len + j : Nat) : Int)), (0, .s sv), (5, .s (.slc n2 0 (len + rmb len) (len + rmb len)))]) (fun j => (n2, ⟨(len + rmb len) * 8, tvQ f len (len + j), 31⟩) :: H) (fun _ => True) (by (repeat first | exact trivial | refine And.intro rfl ?_)) (Drops.keepc rfl rfl (fun q hq => ?_) (Drops.refl _ _)) trivial ?_
    · show tvP f len q = tvQ f len (len + 0) q
      unfold tvP tvQ
      refine congrArg (SV.int .u8) ?_
      by_cases e : q < 8 * len
      · rw [if_pos e, if_pos e]
      · rw [if_neg e, if_neg e, if_neg (show ¬q < 8 * (len + 0) by omega)]
    intro j n5 hj hn5 _
    (repeat first|refine zG ?_|(refine LS.nilO ?_;intro nq hnq hltq;try refine zU ?_)|(refine MS.new ?_;intro bq hbq hbqf;try refine zU ?_)|(refine MS.nil ?_;intro nq hnq hltq;have hlq:=hltq _ _ (Hp.get_eq _ _ _);clear hltq;try refine zU ?_)|(refine LS.nilQ ?_;try with_reducible intro nq hnq;try refine zU ?_))
    refine zI ?_ ?_<;>intro h4
    · have hj' : j < rmb len := by omega
      (repeat first|refine zG ?_|(refine LS.nilO ?_;intro nq hnq hltq;try refine zU ?_)|(refine MS.new ?_;intro bq hbq hbqf;try refine zU ?_)|(refine MS.nil ?_;intro nq hnq hltq;have hlq:=hltq _ _ (Hp.get_eq _ _ _);clear hltq;try refine zU ?_)|(refine LS.nilQ ?_;try with_reducible intro nq hnq;try refine zU ?_))
      refine ⟨by omega, by (repeat first | exact trivial | refine And.intro rfl ?_), Drops.keepc rfl rfl (fun q hq => ?_) (Drops.refl _ _), trivial⟩
      (try simp only [Nat.zero_add])
      exact tvQ_step f len (len + j) q (by omega) (fun y hy => by
        rcases (show y = 0 ∨ y = 1 ∨ y = 2 ∨ y = 3 ∨ y = 4 ∨ y = 5 ∨ y = 6 ∨ y = 7 by omega) with rfl | rfl | rfl | rfl | rfl | rfl | rfl | rfl <;> rfl)
    obtain rfl : j = rmb len := by omega
    (repeat first|refine zG ?_|(refine LS.nilO ?_;intro nq hnq hltq;try refine zU ?_)|(refine MS.new ?_;intro bq hbq hbqf;try refine zU ?_)|(refine MS.nil ?_;intro nq hnq hltq;have hlq:=hltq _ _ (Hp.get_eq _ _ _);clear hltq;try refine zU ?_)|(refine LS.nilQ ?_;try with_reducible intro nq hnq;try refine zU ?_))
    refine RS.lenRA (by exact rfl) hR ?_
    (repeat first|refine zG ?_|(refine LS.nilO ?_;intro nq hnq hltq;try refine zU ?_)|(refine MS.new ?_;intro bq hbq hbqf;try refine zU ?_)|(refine MS.nil ?_;intro nq hnq hltq;have hlq:=hltq _ _ (Hp.get_eq _ _ _);clear hltq;try refine zU ?_)|(refine LS.nilQ ?_;try with_reducible intro nq hnq;try refine zU ?_))
    refine RS.slsTo (j := len) (by exact rfl) (by exact rfl) rfl (by omega) ?_
    (repeat first|refine zG ?_|(refine LS.nilO ?_;intro nq hnq hltq;try refine zU ?_)|(refine MS.new ?_;intro bq hbq hbqf;try refine zU ?_)|(refine MS.nil ?_;intro nq hnq hltq;have hlq:=hltq _ _ (Hp.get_eq _ _ _);clear hltq;try refine zU ?_)|(refine LS.nilQ ?_;try with_reducible intro nq hnq;try refine zU ?_))
    refine ⟨_, (n2, ⟨(len + rmb len) * 8, tvC f len, 31⟩) :: H, rfl, Drops.keepc rfl rfl (fun q hq => ?_) (Drops.refl _ _), .inr ⟨fun q => h2 (by rw [q.2]; rfl), n2, by omega, by omega, rfl, rfl⟩⟩
    show tvQ f len (len + rmb len) q = tvC f len q
    unfold tvQ tvC
    refine congrArg (SV.int .u8) ?_
    by_cases e : q < 8 * len
    · rw [if_pos e, if_pos e]
    · rw [if_neg e, if_neg e, if_pos (show q < 8 * (len + rmb len) by (try dsimp only at hq); omega)]
  · skip
    (repeat first|refine zG ?_|(refine LS.nilO ?_;intro nq hnq hltq;try refine zU ?_)|(refine MS.new ?_;intro bq hbq hbqf;try refine zU ?_)|(refine MS.nil ?_;intro nq hnq hltq;have hlq:=hltq _ _ (Hp.get_eq _ _ _);clear hltq;try refine zU ?_)|(refine LS.nilQ ?_;try with_reducible intro nq hnq;try refine zU ?_))
    refine RS.lenRA (by exact rfl) hR ?_
    (repeat first|refine zG ?_|(refine LS.nilO ?_;intro nq hnq hltq;try refine zU ?_)|(refine MS.new ?_;intro bq hbq hbqf;try refine zU ?_)|(refine MS.nil ?_;intro nq hnq hltq;have hlq:=hltq _ _ (Hp.get_eq _ _ _);clear hltq;try refine zU ?_)|(refine LS.nilQ ?_;try with_reducible intro nq hnq;try refine zU ?_))
    refine RS.lenRA (by exact rfl) hR ?_
    (repeat first|refine zG ?_|(refine LS.nilO ?_;intro nq hnq hltq;try refine zU ?_)|(refine MS.new ?_;intro bq hbq hbqf;try refine zU ?_)|(refine MS.nil ?_;intro nq hnq hltq;have hlq:=hltq _ _ (Hp.get_eq _ _ _);clear hltq;try refine zU ?_)|(refine LS.nilQ ?_;try with_reducible intro nq hnq;try refine zU ?_))
    refine RS.call rfl ((laws_roomBehind len _ _ (by omega)).mono ?_)
    rintro r H n2 hn2 ⟨rfl, rfl⟩
    (repeat first|refine zG ?_|(refine LS.nilO ?_;intro nq hnq hltq;try refine zU ?_)|(refine MS.new ?_;intro bq hbq hbqf;try refine zU ?_)|(refine MS.nil ?_;intro nq hnq hltq;have hlq:=hltq _ _ (Hp.get_eq _ _ _);clear hltq;try refine zU ?_)|(refine LS.nilQ ?_;try with_reducible intro nq hnq;try refine zU ?_))
    refine RS.mks (len := len + rmb len) (cap := len + rmb len) (by exact rfl) (by exact rfl) (by omega) (by omega) (Nat.le_refl _) (by omega) (by omega) ?_
    (repeat first|refine zG ?_|(refine LS.nilO ?_;intro nq hnq hltq;try refine zU ?_)|(refine MS.new ?_;intro bq hbq hbqf;try refine zU ?_)|(refine MS.nil ?_;intro nq hnq hltq;have hlq:=hltq _ _ (Hp.get_eq _ _ _);clear hltq;try refine zU ?_)|(refine LS.nilQ ?_;try with_reducible intro nq hnq;try refine zU ?_))
    refine CS.iter len (fun i => [(6, i64 (i : Nat)), (0, .s sv), (5, .s (.slc n2 0 (len + rmb len) (len + rmb len)))]) (fun i => (n2, ⟨(len + rmb len) * 8, tvP f i, 31⟩) :: H) (fun _ => True) (by (repeat first | exact trivial | refine And.intro rfl ?_)) (Drops.keepc rfl rfl (fun q hq => ?_) (Drops.refl _ _)) trivial ?_
    · show Zs.c [(8, SV.int .u8 0)] (q % 8) = tvP f 0 q
      unfold tvP
      rw [zs8 (by omega), if_neg (show ¬q < 8 * 0 by omega)]
    intro i n3 hi hn3 _
    (repeat first|refine zG ?_|(refine LS.nilO ?_;intro nq hnq hltq;try refine zU ?_)|(refine MS.new ?_;intro bq hbq hbqf;try refine zU ?_)|(refine MS.nil ?_;intro nq hnq hltq;have hlq:=hltq _ _ (Hp.get_eq _ _ _);clear hltq;try refine zU ?_)|(refine LS.nilQ ?_;try with_reducible intro nq hnq;try refine zU ?_))
    refine RS.lenRA (by exact rfl) hR ?_
    (repeat first|refine zG ?_|(refine LS.nilO ?_;intro nq hnq hltq;try refine zU ?_)|(refine MS.new ?_;intro bq hbq hbqf;try refine zU ?_)|(refine MS.nil ?_;intro nq hnq hltq;have hlq:=hltq _ _ (Hp.get_eq _ _ _);clear hltq;try refine zU ?_)|(refine LS.nilQ ?_;try with_reducible intro nq hnq;try refine zU ?_))
    refine zI ?_ ?_<;>intro h3
    · have hi' : i < len := by omega
      obtain ⟨b, o, cap, rfl, hcap, hbm, hcell⟩ : ∃ b o cap, sv = .slc b o len cap ∧ len ≤ cap ∧ b < m ∧ ∀ i, i < 8 * len → BW.cell b (o + i) = some (.int .u8 (f i)) := by
        rcases hR with ⟨_, q⟩ | ⟨b, o, cap, q⟩
        · omega
        · exact ⟨b, o, cap, q⟩
      (repeat first|refine zG ?_|(refine LS.nilO ?_;intro nq hnq hltq;try refine zU ?_)|(refine MS.new ?_;intro bq hbq hbqf;try refine zU ?_)|(refine MS.nil ?_;intro nq hnq hltq;have hlq:=hltq _ _ (Hp.get_eq _ _ _);clear hltq;try refine zU ?_)|(refine LS.nilQ ?_;try with_reducible intro nq hnq;try refine zU ?_))
      refine RS.rdb (q := i * 8) (z' := 8 * len) (f := f) (by exact rfl) (by rw [Hp.get_ne _ _ (by omega)]; exact hm b hbm) hcell (by omega) ?_
      (repeat first|refine zG ?_|(refine LS.nilO ?_;intro nq hnq hltq;try refine zU ?_)|(refine MS.new ?_;intro bq hbq hbqf;try refine zU ?_)|(refine MS.nil ?_;intro nq hnq hltq;have hlq:=hltq _ _ (Hp.get_eq _ _ _);clear hltq;try refine zU ?_)|(refine LS.nilQ ?_;try with_reducible intro nq hnq;try refine zU ?_))
      refine RS.call rfl ((laws_toVector (fun x => f (i * 8 + x)) _ _).mono ?_)
      rintro r H' n4 hn4 ⟨rfl, rfl⟩
      (repeat first|refine zG ?_|(refine LS.nilO ?_;intro nq hnq hltq;try refine zU ?_)|(refine MS.new ?_;intro bq hbq hbqf;try refine zU ?_)|(refine MS.nil ?_;intro nq hnq hltq;have hlq:=hltq _ _ (Hp.get_eq _ _ _);clear hltq;try refine zU ?_)|(refine LS.nilQ ?_;try with_reducible intro nq hnq;try refine zU ?_))
      refine ⟨by omega, by (repeat first | exact trivial | refine And.intro rfl ?_), Drops.keepc rfl rfl (fun q hq => ?_) (Drops.refl _ _), trivial⟩
      (try simp only [Nat.zero_add])
      exact tvP_step f i q (fun y hy => by (try dsimp only); rw [Nat.mul_comm])
    obtain rfl : len = i := by omega
    (repeat first|refine zG ?_|(refine LS.nilO ?_;intro nq hnq hltq;try refine zU ?_)|(refine MS.new ?_;intro bq hbq hbqf;try refine zU ?_)|(refine MS.nil ?_;intro nq hnq hltq;have hlq:=hltq _ _ (Hp.get_eq _ _ _);clear hltq;try refine zU ?_)|(refine LS.nilQ ?_;try with_reducible intro nq hnq;try refine zU ?_))
    refine RS.lenRA (by exact rfl) hR ?_
    (repeat first|refine zG ?_|(refine LS.nilO ?_;intro nq hnq hltq;try refine zU ?_)|(refine MS.new ?_;intro bq hbq hbqf;try refine zU ?_)|(refine MS.nil ?_;intro nq hnq hltq;have hlq:=hltq _ _ (Hp.get_eq _ _ _);clear hltq;try refine zU ?_)|(refine LS.nilQ ?_;try with_reducible intro nq hnq;try refine zU ?_))
    refine CS.iter (rmb len) (fun j => [(7, i64 ((len + j : Nat) : Int)), (0, .s sv), (5, .s (.slc n2 0 (len + rmb len) (len + rmb len)))]) (fun j => (n2, ⟨(len + rmb len) * 8, tvQ f len (len + j), 31⟩) :: H) (fun _ => True) (by (repeat first | exact trivial | refine And.intro rfl ?_)) (Drops.keepc rfl rfl (fun q hq => ?_) (Drops.refl _ _)) trivial ?_
    · show tvP f len q = tvQ f len (len + 0) q
      unfold tvP tvQ
      refine congrArg (SV.int .u8) ?_
      by_cases e : q < 8 * len
      · rw [if_pos e, if_pos e]
      · rw [if_neg e, if_neg e, if_neg (show ¬q < 8 * (len + 0) by omega)]
    intro j n5 hj hn5 _
    (repeat first|refine zG ?_|(refine LS.nilO ?_;intro nq hnq hltq;try refine zU ?_)|(refine MS.new ?_;intro bq hbq hbqf;try refine zU ?_)|(refine MS.nil ?_;intro nq hnq hltq;have hlq:=hltq _ _ (Hp.get_eq _ _ _);clear hltq;try refine zU ?_)|(refine LS.nilQ ?_;try with_reducible intro nq hnq;try refine zU ?_))
    refine zI ?_ ?_<;>intro h4
    · have hj' : j < rmb len := by omega
      (repeat first|refine zG ?_|(refine LS.nilO ?_;intro nq hnq hltq;try refine zU ?_)|(refine MS.new ?_;intro bq hbq hbqf;try refine zU ?_)|(refine MS.nil ?_;intro nq hnq hltq;have hlq:=hltq _ _ (Hp.get_eq _ _ _);clear hltq;try refine zU ?_)|(refine LS.nilQ ?_;try with_reducible intro nq hnq;try refine zU ?_))
      refine ⟨by omega, by (repeat first | exact trivial | refine And.intro rfl ?_), Drops.keepc rfl rfl (fun q hq => ?_) (Drops.refl _ _), trivial⟩
      (try simp only [Nat.zero_add])
      exact tvQ_step f len (len + j) q (by omega) (fun y hy => by
        rcases (show y = 0 ∨ y = 1 ∨ y = 2 ∨ y = 3 ∨ y = 4 ∨ y = 5 ∨ y = 6 ∨ y = 7 by omega) with rfl | rfl | rfl | rfl | rfl | rfl | rfl | rfl <;> rfl)
    obtain rfl : j = rmb len := by omega
    (repeat first|refine zG ?_|(refine LS.nilO ?_;intro nq hnq hltq;try refine zU ?_)|(refine MS.new ?_;intro bq hbq hbqf;try refine zU ?_)|(refine MS.nil ?_;intro nq hnq hltq;have hlq:=hltq _ _ (Hp.get_eq _ _ _);clear hltq;try refine zU ?_)|(refine LS.nilQ ?_;try with_reducible intro nq hnq;try refine zU ?_))
    refine RS.lenRA (by exact rfl) hR ?_
    (repeat first|refine zG ?_|(refine LS.nilO ?_;intro nq hnq hltq;try refine zU ?_)|(refine MS.new ?_;intro bq hbq hbqf;try refine zU ?_)|(refine MS.nil ?_;intro nq hnq hltq;have hlq:=hltq _ _ (Hp.get_eq _ _ _);clear hltq;try refine zU ?_)|(refine LS.nilQ ?_;try with_reducible intro nq hnq;try refine zU ?_))
    refine RS.slsTo (j := len) (by exact rfl) (by exact rfl) rfl (by omega) ?_
    (repeat first|refine zG ?_|(refine LS.nilO ?_;intro nq hnq hltq;try refine zU ?_)|(refine MS.new ?_;intro bq hbq hbqf;try refine zU ?_)|(refine MS.nil ?_;intro nq hnq hltq;have hlq:=hltq _ _ (Hp.get_eq _ _ _);clear hltq;try refine zU ?_)|(refine LS.nilQ ?_;try with_reducible intro nq hnq;try refine zU ?_))
    refine ⟨_, (n2, ⟨(len + rmb len) * 8, tvC f len, 31⟩) :: H, rfl, Drops.keepc rfl rfl (fun q hq => ?_) (Drops.refl _ _), .inr ⟨(fun q => by rw [q.1] at h1; cases h1), n2, by omega, by omega, rfl, rfl⟩⟩
    show tvQ f len (len + rmb len) q = tvC f len q
    unfold tvQ tvC
    refine congrArg (SV.int .u8) ?_
    by_cases e : q < 8 * len
    · rw [if_pos e, if_pos e]
    · rw [if_neg e, if_neg e, if_pos (show q < 8 * (len + rmb len) by (try dsimp only at hq); omega)]

end Go.Proofs.YtkmfdhicjaccaaaGreat
