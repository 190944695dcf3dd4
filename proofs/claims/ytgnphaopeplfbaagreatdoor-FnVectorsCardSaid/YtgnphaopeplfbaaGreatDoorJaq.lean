/- Contracts of the program's functions. -/
import Derived.Test.YtgnphaopeplfbaaGreatDoorJam
import Derived.Test.YtgnphaopeplfbaaGreatDoorJao
import Derived.Test.YtgnphaopeplfbaaGreatDoorJap
set_option linter.unusedSectionVars false
set_option linter.unusedVariables false
set_option linter.unusedSimpArgs false

namespace Go.Proofs.YtgnphaopeplfbaaGreatDoor

open Go.V

variable [BW]

set_option linter.unusedSimpArgs false

set_option linter.unusedVariables false

set_option maxHeartbeats 4000000

/-- impl.isLinear -/
def ir123 : Cd := (.seq (.reg [⟨some 8,none,.mov (.c (.bool false))⟩]) (.seq (.seq (.reg [⟨some 11,none,.mov (.t 3)⟩,⟨some 12,none,.mov (.c (.int .i64 0))⟩]) (.block 0 (.loop (.seq (.reg [⟨some 13,none,.bin .lss (.t 12) (.c (.int .i64 8))⟩]) (.seq (.cond (.t 13) .skip (.exit 0)) (.seq (.block 1 (.seq (.mix [⟨some 14,none,.mov (.t 12)⟩,⟨some 15,none,.ck (.t 11)⟩,⟨some 16,none,.ia 8 8 (.t 15) (.t 12)⟩,⟨some 17,none,.ld (some 8) (.t 16)⟩] [⟨some 10,none,.new 25 [(8,(.int .u8 0))]⟩,⟨some 9,none,.mov (.t 14)⟩,⟨none,none,.st 8 (.t 10) (.t 17)⟩]) (.seq (.reg [⟨some 18,none,.mov (.t 0)⟩,⟨some 19,none,.mov (.t 2)⟩,⟨some 20,none,.ld (some 8) (.t 10)⟩,⟨some 21,none,.call 33 [(.t 18),(.t 19),(.t 20)]⟩,⟨some 22,none,.un .not (.t 21)⟩,⟨some 23,none,.mov (.t 22)⟩,⟨some 24,(some (23,false)),.mov (.t 9)⟩,⟨some 25,(some (23,false)),.mov (.t 1)⟩,⟨some 26,(some (23,false)),.bin .geq (.t 24) (.t 25)⟩,⟨some 27,(some (23,false)),.mov (.t 26)⟩,⟨some 28,(some (27,true)),.ld (some 8) (.t 10)⟩,⟨some 29,(some (27,true)),.build 8 [(8,(.int .u8 0))] []⟩,⟨some 30,(some (27,true)),.eqa true 8 (.t 28) (.t 29)⟩,⟨some 31,(some (23,false)),.pick (.t 27) (.t 30) (.c (.bool false))⟩,⟨some 32,none,.pick (.t 23) (.c (.bool true)) (.t 31)⟩]) (.cond (.t 32) (.seq (.reg [⟨some 8,none,.mov (.c (.bool false))⟩]) .ret) .skip)))) (.reg [⟨some 33,none,.bin .add (.t 12) (.c (.int .i64 1))⟩,⟨some 12,none,.mov (.t 33)⟩]))))))) (.seq (.reg [⟨some 8,none,.mov (.c (.bool true))⟩]) .ret)))

set_option maxRecDepth 100000 in
theorem tr123 : trFn Tryz.prog Tryz.f123 = some (34, ir123, [.tmp 8]) := by kernel_rfl

theorem impl_isLinear (p n' s : Int) (l : Nat → Int) (b o : Nat) (K : Blk) (H : Hp) (n : Nat) (hb : H.get b = some K) (ho : o + 64 ≤ K.size) (hc : ∀ i, i < 64 → K.c (o + i) = .int .u8 (l i)) (hl : isBy 64 l) :
    FnS Tryz.prog 123 [i64 p, i64 n', i64 s, ptr b o] H n (fun r H' _ => r = bl (tb (sz p s ∧ isLin p n' s l)) ∧ H' = H) := by
  refine FnS.of_body Tryz.func123 tr123 (by simp) (fun hf => ?_)
  dsimp only [argEnv]
  unfold ir123
  (refine zG ?_)
  refine CS.iter 8 (fun i => [(12, i64 i), (11, ptr b o), (0, i64 p), (1, i64 n'), (2, i64 s)]) (fun _ => H) (fun i => (1 ≤ i → sz p s) ∧ ∀ j : Nat, j < i → isVec p s (fun x => l (8 * j + x)) ∧ (n' ≤ j → ∀ x, x < 8 → l (8 * j + x) = 0)) (by (repeat first | exact trivial | refine And.intro rfl ?_)) (Drops.refl _ _) ⟨by omega, fun j hj => by omega⟩ ?_
  intro i n1 hi hn hJ
  (refine zG ?_)
  refine zI ?_ ?_<;>intro h1
  · (repeat first|refine zG ?_|(refine LS.nilO ?_;intro nq hnq hltq;try refine zU ?_)|(refine MS.new ?_;intro bq hbq hbqf;try refine zU ?_)|(refine MS.nil ?_;intro nq hnq hltq;have hlq:=hltq _ _ (Hp.get_eq _ _ _);clear hltq;try refine zU ?_)|(refine LS.nilQ ?_;try with_reducible intro nq hnq;try refine zU ?_))
    refine RS.call rfl ((impl_IsVector p s (fun x => l (8 * i + x)) _ _ (fun x hx => hl _ (by omega))).mono ?_)
    rintro r H' n2 hn2 ⟨rfl, rfl⟩
    (refine zG ?_)
    refine RS.sp (t := 23) rfl (fun h2 => ?_) (fun h2 => ?_) <;> (try simp only [tb_eq, tb_eqF, decide_eq_true_eq, decide_eq_false_iff_not, beq_iff_eq, bne_iff_ne, ne_eq, Decidable.not_not, beq_eq_false_iff_ne, bne_eq_false_iff_eq, Bool.not_eq_true', Bool.not_eq_false', Bool.not_eq_eq_eq_not, Bool.not_true, Bool.not_false] at h2)
    · (refine zG ?_)
      exact ⟨_, H, rfl, by exact zD, by rw [tb_false (fun h => h2 ⟨h.1, (h.2 i (by omega)).1⟩)], rfl⟩
    · (refine zG ?_)
      refine RS.sp (t := 27) rfl (fun h3 => ?_) (fun h3 => ?_) <;> (try simp only [tb_eq, tb_eqF, decide_eq_true_eq, decide_eq_false_iff_not, beq_iff_eq, bne_iff_ne, ne_eq, Decidable.not_not, beq_eq_false_iff_ne, bne_eq_false_iff_eq, Bool.not_eq_true', Bool.not_eq_false', Bool.not_eq_eq_eq_not, Bool.not_true, Bool.not_false] at h3)
      · (refine zG ?_)
        refine zI ?_ ?_<;>intro h4
        · (refine zG ?_)
          exact ⟨_, H, rfl, by exact zD, by rw [tb_false (fun h => h4 (fun x hx => (h.2 i (by omega)).2 (by omega) x hx))], rfl⟩
        · (refine zG ?_)
          refine ⟨by omega, by (repeat first | exact trivial | refine And.intro rfl ?_), by exact zD, fun _ => h2.1, fun j hj => ?_⟩
          by_cases e : j < i
          · exact hJ.2 j e
          · have : j = i := by omega
            subst this; exact ⟨h2.2, fun _ => h4⟩
      · (refine zG ?_)
        refine ⟨by omega, by (repeat first | exact trivial | refine And.intro rfl ?_), by exact zD, fun _ => h2.1, fun j hj => ?_⟩
        by_cases e : j < i
        · exact hJ.2 j e
        · have : j = i := by omega
          subst this; exact ⟨h2.2, fun h => by omega⟩
  · (refine zG ?_)
    exact ⟨_, H, rfl, by exact zD, by rw [tb_true (show sz p s ∧ isLin p n' s l from ⟨hJ.1 (by omega), fun j hj => hJ.2 j (by omega)⟩)], rfl⟩

/-- impl.isTable -/
def ir110 : Cd := (.seq (.reg [⟨some 6,none,.mov (.c (.bool false))⟩]) (.seq (.seq (.reg [⟨some 8,none,.mov (.c (.int .i64 0))⟩]) (.block 0 (.loop (.seq (.reg [⟨some 9,none,.bin .lss (.t 8) (.c (.int .i64 8))⟩]) (.seq (.cond (.t 9) .skip (.exit 0)) (.seq (.block 1 (.seq (.reg [⟨some 10,none,.mov (.t 8)⟩,⟨some 7,none,.mov (.t 10)⟩]) (.seq (.reg [⟨some 11,none,.mov (.t 0)⟩,⟨some 12,none,.mov (.t 1)⟩,⟨some 13,none,.mov (.t 1)⟩,⟨some 14,none,.mov (.t 2)⟩,⟨some 15,none,.mov (.t 7)⟩,⟨some 16,none,.ck (.t 14)⟩,⟨some 17,none,.ia 8 64 (.t 16) (.t 15)⟩,⟨some 18,none,.call 123 [(.t 11),(.t 12),(.t 13),(.t 17)]⟩,⟨some 19,none,.un .not (.t 18)⟩,⟨some 20,none,.mov (.t 19)⟩,⟨some 21,(some (20,false)),.mov (.t 7)⟩,⟨some 22,(some (20,false)),.mov (.t 1)⟩,⟨some 23,(some (20,false)),.bin .geq (.t 21) (.t 22)⟩,⟨some 24,(some (20,false)),.mov (.t 23)⟩,⟨some 25,(some (24,true)),.mov (.t 2)⟩,⟨some 26,(some (24,true)),.mov (.t 7)⟩,⟨some 27,(some (24,true)),.ck (.t 25)⟩,⟨some 28,(some (24,true)),.ia 8 64 (.t 27) (.t 26)⟩,⟨some 29,(some (24,true)),.ld (some 64) (.t 28)⟩,⟨some 30,(some (24,true)),.build 64 [(64,(.int .u8 0))] []⟩,⟨some 31,(some (24,true)),.eqa true 64 (.t 29) (.t 30)⟩,⟨some 32,(some (20,false)),.pick (.t 24) (.t 31) (.c (.bool false))⟩,⟨some 33,none,.pick (.t 20) (.c (.bool true)) (.t 32)⟩]) (.cond (.t 33) (.seq (.reg [⟨some 6,none,.mov (.c (.bool false))⟩]) .ret) .skip)))) (.reg [⟨some 34,none,.bin .add (.t 8) (.c (.int .i64 1))⟩,⟨some 8,none,.mov (.t 34)⟩]))))))) (.seq (.reg [⟨some 6,none,.mov (.c (.bool true))⟩]) .ret)))

set_option maxRecDepth 100000 in
theorem tr110 : trFn Tryz.prog Tryz.f110 = some (35, ir110, [.tmp 6]) := by kernel_rfl

theorem impl_isTable (p n' : Int) (t : Nat → Int) (b o : Nat) (K : Blk) (H : Hp) (n : Nat) (hb : H.get b = some K) (ho : o + 512 ≤ K.size) (hc : ∀ i, i < 512 → K.c (o + i) = .int .u8 (t i)) (ht : isBy 512 t) :
    FnS Tryz.prog 110 [i64 p, i64 n', ptr b o] H n (fun r H' _ => r = bl (tb (sz p n' ∧ isTab p n' t)) ∧ H' = H) := by
  refine FnS.of_body Tryz.func110 tr110 (by simp) (fun hf => ?_)
  dsimp only [argEnv]
  unfold ir110
  (refine zG ?_)
  refine CS.iter 8 (fun i => [(8, i64 i), (2, ptr b o), (0, i64 p), (1, i64 n')]) (fun _ => H) (fun i => (1 ≤ i → sz p n') ∧ ∀ j : Nat, j < i → isLin p n' n' (fun x => t (64 * j + x)) ∧ (n' ≤ j → ∀ x, x < 64 → t (64 * j + x) = 0)) (by (repeat first | exact trivial | refine And.intro rfl ?_)) (Drops.refl _ _) ⟨by omega, fun j hj => by omega⟩ ?_
  intro i n1 hi hn hJ
  (refine zG ?_)
  refine zI ?_ ?_<;>intro h1
  · (refine zG ?_)
    refine RS.call rfl ((impl_isLinear p n' n' (fun x => t (64 * i + x)) b (o + 64 * i) K _ _ hb (by omega) (fun x hx => by rw [Nat.add_assoc]; exact hc _ (by omega)) (fun x hx => ht _ (by omega))).mono ?_)
    rintro r H' n2 hn2 ⟨rfl, rfl⟩
    (refine zG ?_)
    refine RS.sp (t := 20) rfl (fun h2 => ?_) (fun h2 => ?_) <;> (try simp only [tb_eq, tb_eqF, decide_eq_true_eq, decide_eq_false_iff_not, beq_iff_eq, bne_iff_ne, ne_eq, Decidable.not_not, beq_eq_false_iff_ne, bne_eq_false_iff_eq, Bool.not_eq_true', Bool.not_eq_false', Bool.not_eq_eq_eq_not, Bool.not_true, Bool.not_false] at h2)
    · (refine zG ?_)
      exact ⟨_, H', rfl, by exact zD, by rw [tb_false (fun h => h2 ⟨h.1, (h.2 i (by omega)).1⟩)], rfl⟩
    · (refine zG ?_)
      refine RS.sp (t := 24) rfl (fun h3 => ?_) (fun h3 => ?_) <;> (try simp only [tb_eq, tb_eqF, decide_eq_true_eq, decide_eq_false_iff_not, beq_iff_eq, bne_iff_ne, ne_eq, Decidable.not_not, beq_eq_false_iff_ne, bne_eq_false_iff_eq, Bool.not_eq_true', Bool.not_eq_false', Bool.not_eq_eq_eq_not, Bool.not_true, Bool.not_false] at h3)
      · (refine zG ?_)
        refine zI ?_ ?_<;>intro h4
        · (refine zG ?_)
          exact ⟨_, H', rfl, by exact zD, by rw [tb_false (fun h => h4 (fun x hx => (h.2 i (by omega)).2 (by omega) x hx))], rfl⟩
        · (refine zG ?_)
          refine ⟨by omega, by (repeat first | exact trivial | refine And.intro rfl ?_), by exact zD, fun _ => h2.1, fun j hj => ?_⟩
          by_cases e : j < i
          · exact hJ.2 j e
          · have : j = i := by omega
            subst this; exact ⟨h2.2, fun _ => h4⟩
      · (refine zG ?_)
        refine ⟨by omega, by (repeat first | exact trivial | refine And.intro rfl ?_), by exact zD, fun _ => h2.1, fun j hj => ?_⟩
        by_cases e : j < i
        · exact hJ.2 j e
        · have : j = i := by omega
          subst this; exact ⟨h2.2, fun h => by omega⟩
  · (refine zG ?_)
    exact ⟨_, _, rfl, by exact zD, by rw [tb_true (show sz p n' ∧ isTab p n' t from ⟨hJ.1 (by omega), fun j hj => hJ.2 j (by omega)⟩)], rfl⟩

/-- spec.l01Table -/
def ir109 : Cd := (.seq (.reg [⟨some 5,none,.box 29 (.t 2)⟩,⟨some 6,none,.mov (.c (.bool false))⟩]) (.seq (.seq (.reg [⟨some 7,none,.mov (.c (.int .i64 0))⟩]) (.block 0 (.loop (.seq (.seq (.reg [⟨some 8,none,.mov (.t 7)⟩,⟨some 9,none,.bin .lss (.t 8) (.c (.int .i64 8))⟩]) (.cond (.t 9) .skip (.exit 0))) (.seq (.block 1 (.seq (.reg [⟨some 12,none,.mov (.t 0)⟩,⟨some 13,none,.mov (.t 1)⟩,⟨some 14,none,.mov (.t 7)⟩,⟨some 15,none,.ia 8 64 (.t 5) (.t 14)⟩,⟨some 16,none,.ld (some 64) (.t 15)⟩,⟨some 17,none,.call 122 [(.t 12),(.t 13),(.t 16)]⟩,⟨some 18,none,.un .not (.t 17)⟩,⟨some 19,none,.mov (.t 18)⟩,⟨some 20,(some (19,false)),.mov (.t 7)⟩,⟨some 21,(some (19,false)),.mov (.t 1)⟩,⟨some 22,(some (19,false)),.bin .geq (.t 20) (.t 21)⟩,⟨some 23,(some (19,false)),.mov (.t 22)⟩,⟨some 24,(some (23,true)),.mov (.t 7)⟩,⟨some 25,(some (23,true)),.ia 8 64 (.t 5) (.t 24)⟩,⟨some 26,(some (23,true)),.ld (some 64) (.t 25)⟩,⟨some 27,(some (23,true)),.build 64 [(64,(.int .u8 0))] []⟩,⟨some 28,(some (23,true)),.eqa true 64 (.t 26) (.t 27)⟩,⟨some 29,(some (19,false)),.pick (.t 23) (.t 28) (.c (.bool false))⟩,⟨some 30,none,.pick (.t 19) (.c (.bool true)) (.t 29)⟩]) (.cond (.t 30) (.seq (.reg [⟨some 6,none,.mov (.c (.bool false))⟩]) .ret) .skip))) (.reg [⟨some 10,none,.mov (.t 7)⟩,⟨some 11,none,.bin .add (.t 10) (.c (.int .i64 1))⟩,⟨some 7,none,.mov (.t 11)⟩])))))) (.seq (.reg [⟨some 6,none,.mov (.c (.bool true))⟩]) .ret)))

set_option maxRecDepth 100000 in
theorem tr109 : trFn Tryz.prog Tryz.f109 = some (31, ir109, [.tmp 6]) := by kernel_rfl

theorem spec_l01Table (p n' : Int) (t : Nat → Int) (H : Hp) (n : Nat) (ht : isBy 512 t) :
    FnS Tryz.prog 109 [i64 p, i64 n', .arr 512 (bys t)] H n (fun r H' _ => r = bl (tb (isTab p n' t)) ∧ H' = H) := by
  have hk : ∀ i, i < 512 → bys t (0 + i) = .int .u8 (t i) := fun i _ => by rw [Nat.zero_add]; rfl
  refine FnS.of_body Tryz.func109 tr109 (by simp) (fun hf => ?_)
  dsimp only [argEnv]
  unfold ir109
  (refine zG ?_)
  refine CS.iter 8 (fun i => [(7, i64 i), (5, ptr n 0), (0, i64 p), (1, i64 n')]) (fun _ => (n, ⟨512, bys t, 29⟩) :: H) (fun i => ∀ j : Nat, j < i → isLin p n' n' (fun x => t (64 * j + x)) ∧ (n' ≤ j → ∀ x, x < 64 → t (64 * j + x) = 0)) (by (repeat first | exact trivial | refine And.intro rfl ?_)) (Drops.refl _ _) (fun j hj => by omega) ?_
  intro i n1 hi hn hJ
  (refine zG ?_)
  refine zI ?_ ?_<;>intro h1
  · (refine zG ?_)
    refine RS.call rfl ((spec_l01Linear p n' (fun x => t (64 * i + x)) _ _ (fun x hx => ht _ (by omega))).mono ?_)
    rintro r H' n2 hn2 ⟨rfl, rfl⟩
    (refine zG ?_)
    refine RS.sp (t := 19) rfl (fun h2 => ?_) (fun h2 => ?_) <;> (try simp only [tb_eq, tb_eqF, decide_eq_true_eq, decide_eq_false_iff_not, beq_iff_eq, bne_iff_ne, ne_eq, Decidable.not_not, beq_eq_false_iff_ne, bne_eq_false_iff_eq, Bool.not_eq_true', Bool.not_eq_false', Bool.not_eq_eq_eq_not, Bool.not_true, Bool.not_false] at h2)
    · (refine zG ?_)
      exact ⟨_, H, rfl, by exact zD, by rw [tb_false (fun h => h2 (h i (by omega)).1)], rfl⟩
    · (refine zG ?_)
      refine RS.sp (t := 23) rfl (fun h3 => ?_) (fun h3 => ?_) <;> (try simp only [tb_eq, tb_eqF, decide_eq_true_eq, decide_eq_false_iff_not, beq_iff_eq, bne_iff_ne, ne_eq, Decidable.not_not, beq_eq_false_iff_ne, bne_eq_false_iff_eq, Bool.not_eq_true', Bool.not_eq_false', Bool.not_eq_eq_eq_not, Bool.not_true, Bool.not_false] at h3)
      · (refine zG ?_)
        refine zI ?_ ?_<;>intro h4
        · (refine zG ?_)
          exact ⟨_, H, rfl, by exact zD, by rw [tb_false (fun h => h4 (fun x hx => (h i (by omega)).2 (by omega) x hx))], rfl⟩
        · (refine zG ?_)
          refine ⟨by omega, by (repeat first | exact trivial | refine And.intro rfl ?_), by exact zD, fun j hj => ?_⟩
          by_cases e : j < i
          · exact hJ j e
          · have : j = i := by omega
            subst this; exact ⟨h2, fun _ => h4⟩
      · (refine zG ?_)
        refine ⟨by omega, by (repeat first | exact trivial | refine And.intro rfl ?_), by exact zD, fun j hj => ?_⟩
        by_cases e : j < i
        · exact hJ j e
        · have : j = i := by omega
          subst this; exact ⟨h2, fun h => by omega⟩
  · (refine zG ?_)
    exact ⟨_, H, rfl, by exact zD, by rw [tb_true (show isTab p n' t from fun j hj => hJ j (by omega))], rfl⟩

/-- spec.l01Sizes -/
def ir108 : Cd := (.seq (.reg [⟨some 4,none,.mov (.c (.bool false))⟩]) (.seq (.reg [⟨some 5,none,.mov (.t 0)⟩,⟨some 6,none,.call 121 [(.t 5)]⟩,⟨some 7,none,.mov (.t 6)⟩,⟨some 8,(some (7,true)),.mov (.t 1)⟩,⟨some 9,(some (7,true)),.call 47 [(.t 8),(.c (.int .i64 1)),(.c (.int .i64 8))]⟩,⟨some 10,none,.pick (.t 7) (.t 9) (.c (.bool false))⟩,⟨some 4,none,.mov (.t 10)⟩]) .ret))

set_option maxRecDepth 100000 in
theorem tr108 : trFn Tryz.prog Tryz.f108 = some (11, ir108, [.tmp 4]) := by kernel_rfl

theorem spec_l01Sizes (p n' : Int) (H : Hp) (n : Nat) :
    FnS Tryz.prog 108 [i64 p, i64 n'] H n (fun v H' _ => v = bl (tb (sz p n')) ∧ H' = H) := by
  refine FnS.of_body Tryz.func108 tr108 (by simp) (fun hf => ?_)
  dsimp only [argEnv]
  unfold ir108
  (refine zG ?_)
  refine RS.call rfl ((spec_l01Prime _ _ _).mono ?_)
  rintro r H' n2 hn2 ⟨rfl, rfl⟩
  (refine zG ?_)
  refine RS.sp (t := 7) rfl (fun h1 => ?_) (fun h1 => ?_) <;> (try simp only [tb_eq, tb_eqF, decide_eq_true_eq, decide_eq_false_iff_not, beq_iff_eq, bne_iff_ne, ne_eq, Decidable.not_not, beq_eq_false_iff_ne, bne_eq_false_iff_eq, Bool.not_eq_true', Bool.not_eq_false', Bool.not_eq_eq_eq_not, Bool.not_true, Bool.not_false] at h1)
  · (refine zG ?_)
    refine RS.call rfl ((spec_l01In _ _ _ _ _).mono ?_)
    rintro r H' n3 hn3 ⟨rfl, rfl⟩
    (refine zG ?_)
    exact ⟨_, _, rfl, by exact zD, by rw [tb_iff (R := 1 ≤ n' ∧ n' ≤ 8) ⟨fun h => h.2, fun h => ⟨h1, h⟩⟩, tb_dec], rfl⟩
  · (refine zG ?_)
    exact ⟨_, _, rfl, by exact zD, by rw [tb_false (fun h => by simp [h.1] at h1)], rfl⟩

/-- spec.l01Shape -/
def ir86 : Cd := (.seq (.reg [⟨some 1,none,.box 31 (.t 0)⟩,⟨some 2,none,.mov (.c (.bool false))⟩]) (.seq (.reg [⟨some 3,none,.fa 0 (.t 1)⟩,⟨some 4,none,.ld none (.t 3)⟩,⟨some 5,none,.fa 1 (.t 1)⟩,⟨some 6,none,.ld none (.t 5)⟩,⟨some 7,none,.call 108 [(.t 4),(.t 6)]⟩,⟨some 8,none,.mov (.t 7)⟩,⟨some 9,(some (8,true)),.fa 0 (.t 1)⟩,⟨some 10,(some (8,true)),.ld none (.t 9)⟩,⟨some 11,(some (8,true)),.fa 1 (.t 1)⟩,⟨some 12,(some (8,true)),.ld none (.t 11)⟩,⟨some 13,(some (8,true)),.fa 2 (.t 1)⟩,⟨some 14,(some (8,true)),.ld (some 8) (.t 13)⟩,⟨some 15,(some (8,true)),.call 59 [(.t 10),(.t 12),(.t 14)]⟩,⟨some 16,none,.pick (.t 8) (.t 15) (.c (.bool false))⟩,⟨some 17,none,.mov (.t 16)⟩,⟨some 18,(some (17,true)),.fa 0 (.t 1)⟩,⟨some 19,(some (17,true)),.ld none (.t 18)⟩,⟨some 20,(some (17,true)),.fa 1 (.t 1)⟩,⟨some 21,(some (17,true)),.ld none (.t 20)⟩,⟨some 22,(some (17,true)),.fa 10 (.t 1)⟩,⟨some 23,(some (17,true)),.ld (some 512) (.t 22)⟩,⟨some 24,(some (17,true)),.call 109 [(.t 19),(.t 21),(.t 23)]⟩,⟨some 25,none,.pick (.t 17) (.t 24) (.c (.bool false))⟩,⟨some 2,none,.mov (.t 25)⟩]) .ret))

set_option maxRecDepth 100000 in
theorem tr86 : trFn Tryz.prog Tryz.f86 = some (26, ir86, [.tmp 2]) := by kernel_rfl

theorem spec_l01Shape (p n' : Int) (u m : Nat → Int) (K : Nat → SV) (H : Hp) (n : Nat) (h0 : K 0 = .int .i64 p) (h1 : K 1 = .int .i64 n')
    (hU : ∀ q, q < 8 → K (2 + q) = .int .u8 (u q)) (hK : ∀ q, q < 512 → K (10 + q) = .int .u8 (m q)) (hu : isBy 8 u) (hm : isBy 512 m) :
    FnS Tryz.prog 86 [.arr 522 K] H n (fun v H' _ => v = bl (tb (shp p n' u m)) ∧ H' = H) := by
  refine FnS.of_body Tryz.func86 tr86 (by simp) (fun hf => ?_)
  dsimp only [argEnv]
  unfold ir86
  (refine zG ?_)
  refine RS.call rfl ((spec_l01Sizes _ _ _ _).mono ?_)
  rintro r H' n2 hn2 ⟨rfl, rfl⟩
  (refine zG ?_)
  refine RS.sp (t := 8) rfl (fun h2 => ?_) (fun h2 => ?_) <;> (try simp only [tb_eq, tb_eqF, decide_eq_true_eq, decide_eq_false_iff_not, beq_iff_eq, bne_iff_ne, ne_eq, Decidable.not_not, beq_eq_false_iff_ne, bne_eq_false_iff_eq, Bool.not_eq_true', Bool.not_eq_false', Bool.not_eq_eq_eq_not, Bool.not_true, Bool.not_false] at h2)
  · (refine zG ?_)
    refine RS.call rfl ((spec_l01Vector p n' u _ _ hu).mono ?_)
    rintro r H' n3 hn3 ⟨rfl, rfl⟩
    (refine zG ?_)
    refine RS.sp (t := 17) rfl (fun h3 => ?_) (fun h3 => ?_) <;> (try simp only [tb_eq, tb_eqF, decide_eq_true_eq, decide_eq_false_iff_not, beq_iff_eq, bne_iff_ne, ne_eq, Decidable.not_not, beq_eq_false_iff_ne, bne_eq_false_iff_eq, Bool.not_eq_true', Bool.not_eq_false', Bool.not_eq_eq_eq_not, Bool.not_true, Bool.not_false] at h3)
    · (refine zG ?_)
      refine RS.call rfl ((spec_l01Table p n' m _ _ hm).mono ?_)
      rintro r H' n4 hn4 ⟨rfl, rfl⟩
      (refine zG ?_)
      exact ⟨_, H, rfl, by exact zD, congrArg bl (tb_iff ⟨fun h => ⟨h2, h3, h⟩, fun h => h.2.2⟩), rfl⟩
    · (refine zG ?_)
      exact ⟨_, H, rfl, by exact zD, by rw [tb_false (fun h => h3 h.2.1)], rfl⟩
  · (refine zG ?_)
    exact ⟨_, H, rfl, by exact zD, by rw [tb_false (fun h => h2 h.1)], rfl⟩

/-- (*impl.Algebra).isShaped -/
def ir89 : Cd := (.seq (.reg [⟨some 2,none,.mov (.c (.bool false))⟩]) (.seq (.drw true [25] [⟨some 3,none,.mov (.t 0)⟩,⟨some 4,none,.ck (.t 3)⟩,⟨some 5,none,.fa 0 (.t 4)⟩,⟨some 6,none,.ld none (.t 5)⟩,⟨some 7,none,.mov (.t 0)⟩,⟨some 8,none,.ck (.t 7)⟩,⟨some 9,none,.fa 1 (.t 8)⟩,⟨some 10,none,.ld none (.t 9)⟩,⟨some 11,none,.mov (.t 0)⟩,⟨some 12,none,.ck (.t 11)⟩,⟨some 13,none,.fa 2 (.t 12)⟩,⟨some 14,none,.ld (some 8) (.t 13)⟩,⟨some 15,none,.call 33 [(.t 6),(.t 10),(.t 14)]⟩,⟨some 16,none,.mov (.t 15)⟩,⟨some 17,(some (16,true)),.mov (.t 0)⟩,⟨some 18,(some (16,true)),.ck (.t 17)⟩,⟨some 19,(some (16,true)),.fa 0 (.t 18)⟩,⟨some 20,(some (16,true)),.ld none (.t 19)⟩,⟨some 21,(some (16,true)),.mov (.t 0)⟩,⟨some 22,(some (16,true)),.ck (.t 21)⟩,⟨some 23,(some (16,true)),.fa 1 (.t 22)⟩,⟨some 24,(some (16,true)),.ld none (.t 23)⟩,⟨some 25,(some (16,true)),.mov (.t 0)⟩,⟨some 26,(some (16,true)),.ck (.t 25)⟩,⟨some 27,(some (16,true)),.fa 10 (.t 26)⟩,⟨some 28,(some (16,true)),.call 110 [(.t 20),(.t 24),(.t 27)]⟩,⟨some 29,none,.pick (.t 16) (.t 28) (.c (.bool false))⟩,⟨some 2,none,.mov (.t 29)⟩]) .ret))

set_option maxRecDepth 100000 in
theorem tr89 : trFn Tryz.prog Tryz.f89 = some (30, ir89, [.tmp 2]) := by kernel_rfl

theorem Algebra_isShaped (p n' : Int) (u m : Nat → Int) (b : Nat) (K : Blk) (H : Hp) (n : Nat) (hb : H.get b = some K) (hsz : K.size = 522) (h0 : K.c 0 = .int .i64 p) (h1 : K.c 1 = .int .i64 n')
    (hU : ∀ q, q < 8 → K.c (2 + q) = .int .u8 (u q)) (hK : ∀ q, q < 512 → K.c (10 + q) = .int .u8 (m q)) (hu : isBy 8 u) (hm : isBy 512 m) :
    FnS Tryz.prog 89 [ptr b 0] H n (fun v H' _ => v = bl (tb (shp p n' u m)) ∧ H' = H) := by
  refine FnS.of_body Tryz.func89 tr89 (by simp) (fun hf => ?_)
  dsimp only [argEnv]
  unfold ir89
  have hbn := getlt hf hb
  (refine zG ?_)
  refine LS.callQ (bl (tb (sz p n' ∧ isVec p n' u))) rfl (fun n' hn' => impl_IsVector _ _ u _ _ hu) ?_
  (refine zG ?_)
  refine RS.sp (t := 16) rfl (fun h2 => ?_) (fun h2 => ?_) <;> (try simp only [tb_eq, tb_eqF, decide_eq_true_eq, decide_eq_false_iff_not, beq_iff_eq, bne_iff_ne, ne_eq, Decidable.not_not, beq_eq_false_iff_ne, bne_eq_false_iff_eq, Bool.not_eq_true', Bool.not_eq_false', Bool.not_eq_eq_eq_not, Bool.not_true, Bool.not_false] at h2)
  · (repeat first|refine zG ?_|(refine LS.nilO ?_;intro nq hnq hltq;try refine zU ?_)|(refine MS.new ?_;intro bq hbq hbqf;try refine zU ?_)|(refine MS.nil ?_;intro nq hnq hltq;have hlq:=hltq _ _ (Hp.get_eq _ _ _);clear hltq;try refine zU ?_)|(refine LS.nilQ ?_;try with_reducible intro nq hnq;try refine zU ?_))
    refine RS.call rfl ((impl_isTable p n' m b 10 K _ _ hb (by omega) hK hm).mono ?_)
    rintro r H' n3 hn3 ⟨rfl, rfl⟩
    (refine zG ?_)
    exact ⟨_, _, rfl, by exact zD, congrArg bl (tb_iff ⟨fun h => ⟨h.1, h2.2, h.2⟩, fun h => ⟨h.1, h.2.2⟩⟩), rfl⟩
  · (repeat first|refine zG ?_|(refine LS.nilO ?_;intro nq hnq hltq;try refine zU ?_)|(refine MS.new ?_;intro bq hbq hbqf;try refine zU ?_)|(refine MS.nil ?_;intro nq hnq hltq;have hlq:=hltq _ _ (Hp.get_eq _ _ _);clear hltq;try refine zU ?_)|(refine LS.nilQ ?_;try with_reducible intro nq hnq;try refine zU ?_))
    exact ⟨_, _, rfl, by exact zD, by rw [tb_false (fun h => h2 ⟨h.1, h.2.1⟩)], rfl⟩

end Go.Proofs.YtgnphaopeplfbaaGreatDoor

/- Contracts of the program's functions. -/

namespace Go.Proofs.YtgnphaopeplfbaaGreatDoor

open Go.V

variable [BW]

set_option linter.unusedSimpArgs false

set_option linter.unusedVariables false

set_option maxHeartbeats 4000000

/-- spec.l01Is -/
def ir58 : Cd := (.seq (.reg [⟨some 1,none,.box 31 (.t 0)⟩,⟨some 2,none,.mov (.c (.bool false))⟩]) (.seq (.seq (.reg [⟨some 6,none,.ld (some 522) (.t 1)⟩,⟨some 7,none,.call 86 [(.t 6)]⟩,⟨some 8,none,.un .not (.t 7)⟩]) (.cond (.t 8) (.seq (.reg [⟨some 2,none,.mov (.c (.bool false))⟩]) .ret) .skip)) (.seq (.seq (.reg [⟨some 3,none,.mov (.c (.int .i64 0))⟩]) (.block 0 (.loop (.seq (.seq (.reg [⟨some 9,none,.mov (.t 3)⟩,⟨some 10,none,.fa 1 (.t 1)⟩,⟨some 11,none,.ld none (.t 10)⟩,⟨some 12,none,.bin .lss (.t 9) (.t 11)⟩]) (.cond (.t 12) .skip (.exit 0))) (.seq (.block 1 (.seq (.drwo true [17] [0,1,2,3,6,4,5,7,8,9,10,11,13,14,16,12,15,17,18,19] [⟨some 15,none,.ld (some 522) (.t 1)⟩,⟨some 16,none,.fa 2 (.t 1)⟩,⟨some 17,none,.ld (some 8) (.t 16)⟩,⟨some 18,none,.mov (.t 3)⟩,⟨some 19,none,.call 74 [(.t 18)]⟩,⟨some 20,none,.call 28 [(.t 15),(.t 17),(.t 19)]⟩,⟨some 21,none,.mov (.t 3)⟩,⟨some 22,none,.call 74 [(.t 21)]⟩,⟨some 23,none,.eqa true 8 (.t 20) (.t 22)⟩,⟨some 24,none,.mov (.t 23)⟩,⟨some 25,(some (24,false)),.ld (some 522) (.t 1)⟩,⟨some 26,(some (24,false)),.mov (.t 3)⟩,⟨some 27,(some (24,false)),.call 74 [(.t 26)]⟩,⟨some 28,(some (24,false)),.fa 2 (.t 1)⟩,⟨some 29,(some (24,false)),.ld (some 8) (.t 28)⟩,⟨some 30,(some (24,false)),.call 28 [(.t 25),(.t 27),(.t 29)]⟩,⟨some 31,(some (24,false)),.mov (.t 3)⟩,⟨some 32,(some (24,false)),.call 74 [(.t 31)]⟩,⟨some 33,(some (24,false)),.eqa true 8 (.t 30) (.t 32)⟩,⟨some 34,none,.pick (.t 24) (.c (.bool true)) (.t 33)⟩]) (.cond (.t 34) (.seq (.reg [⟨some 2,none,.mov (.c (.bool false))⟩]) .ret) .skip))) (.reg [⟨some 13,none,.mov (.t 3)⟩,⟨some 14,none,.bin .add (.t 13) (.c (.int .i64 1))⟩,⟨some 3,none,.mov (.t 14)⟩])))))) (.seq (.reg [⟨some 36,none,.ld (some 522) (.t 1)⟩,⟨some 37,none,.call 87 [(.t 36)]⟩,⟨some 35,none,.mov (.t 37)⟩,⟨some 38,none,.ex (.t 35) 0⟩,⟨some 39,none,.ex (.t 35) 1⟩,⟨some 4,none,.mov (.t 38)⟩,⟨some 5,none,.mov (.t 39)⟩]) (.seq (.reg [⟨some 40,none,.mov (.t 5)⟩,⟨some 41,none,.un .not (.t 40)⟩,⟨some 2,none,.mov (.t 41)⟩]) .ret)))))

set_option maxRecDepth 100000 in
theorem tr58 : trFn Tryz.prog Tryz.f58 = some (42, ir58, [.tmp 2]) := by kernel_rfl

theorem spec_l01Is (p n' : Int) (u m : Nat → Int) (K : Nat → SV) (H : Hp) (n : Nat) (h0 : K 0 = .int .i64 p) (h1 : K 1 = .int .i64 n')
    (hU : ∀ q, q < 8 → K (2 + q) = .int .u8 (u q)) (hK : ∀ q, q < 512 → K (10 + q) = .int .u8 (m q)) (hu : isBy 8 u) (hm : isBy 512 m) :
    FnS Tryz.prog 58 [.arr 522 K] H n (fun v H' _ => v = bl (tb (isAlg p n' u m)) ∧ H' = H) := by
  refine FnS.of_body Tryz.func58 tr58 (by simp) (fun hf => ?_)
  dsimp only [argEnv]
  unfold ir58
  (refine zG ?_)
  refine RS.call rfl ((FnS.args (concs_cons (conc_arr (fun q hq => rfl)) rfl) (spec_l01Shape p n' u m K _ _ h0 h1 hU hK hu hm)).mono ?_)
  rintro r H n2 hn2 ⟨rfl, rfl⟩
  (refine zG ?_)
  refine zI ?_ ?_<;>intro h2
  · (refine zG ?_)
    exact ⟨_, H, rfl, by exact zD, by rw [tb_false (fun h => h2 h.1)], rfl⟩
  · obtain ⟨hz1, hz2, hz3⟩ := h2.1
    obtain ⟨a, rfl⟩ := Int.eq_ofNat_of_zero_le (show 0 ≤ n' by omega)
    have hp := isP_le hz1
    have ha : a ≤ 8 := by omega
    (refine zG ?_)
    refine CS.iter a (fun i => [(3, i64 i), (1, ptr n 0)]) (fun _ => (n, ⟨522, K, 31⟩) :: H)
      (fun i => ∀ i' : Nat, i' < i → (∀ q, q < 8 → pr p m u (bas i') a q = bas i' q) ∧ (∀ q, q < 8 → pr p m (bas i') u a q = bas i' q)) (by (repeat first | exact trivial | refine And.intro rfl ?_)) (Drops.refl _ _) (fun _ h => by omega) ?_
    intro i n3 hi hn hJ
    (refine zG ?_)
    refine zI ?_ ?_<;>intro h3
    · (refine zG ?_)
      refine CS.quietLo ?_
      (refine zG ?_)
      refine LS.callQ (.arr 8 (bys (bas i))) rfl (fun n' hn' => spec_l01Basis i _ _ (by omega)) ?_
      (repeat first|refine zG ?_|(refine LS.nilO ?_;intro nq hnq hltq;try refine zU ?_)|(refine MS.new ?_;intro bq hbq hbqf;try refine zU ?_)|(refine MS.nil ?_;intro nq hnq hltq;have hlq:=hltq _ _ (Hp.get_eq _ _ _);clear hltq;try refine zU ?_)|(refine LS.nilQ ?_;try with_reducible intro nq hnq;try refine zU ?_))
      refine LS.callQ (.arr 8 (bys (pr p m u (bas i) a))) rfl (fun n' hn' => spec_l01Times p a m u (bas i) _ _ _ hp ha h0 h1 hK hm hu (bas_by _ _)) ?_
      (refine zG ?_)
      refine LS.callQ (.arr 8 (bys (bas i))) rfl (fun n' hn' => spec_l01Basis i _ _ (by omega)) ?_
      (refine zG ?_)
      refine RS.sp (t := 24) rfl (fun h4 => ?_) (fun h4 => ?_) <;> (try simp only [tb_eq, tb_eqF, decide_eq_true_eq, decide_eq_false_iff_not, beq_iff_eq, bne_iff_ne, ne_eq, Decidable.not_not, beq_eq_false_iff_ne, bne_eq_false_iff_eq, Bool.not_eq_true', Bool.not_eq_false', Bool.not_eq_eq_eq_not, Bool.not_true, Bool.not_false] at h4)
      · (repeat first|refine zG ?_|(refine LS.nilO ?_;intro nq hnq hltq;try refine zU ?_)|(refine MS.new ?_;intro bq hbq hbqf;try refine zU ?_)|(refine MS.nil ?_;intro nq hnq hltq;have hlq:=hltq _ _ (Hp.get_eq _ _ _);clear hltq;try refine zU ?_)|(refine LS.nilQ ?_;try with_reducible intro nq hnq;try refine zU ?_))
        exact ⟨_, H, rfl, by exact zD, by rw [tb_false (fun h => h4 (h.2.1 i (by omega)).1)], rfl⟩
      · (refine zG ?_)
        refine LS.callQ (.arr 8 (bys (bas i))) rfl (fun n' hn' => spec_l01Basis i _ _ (by omega)) ?_
        (refine zG ?_)
        refine LS.callQ (.arr 8 (bys (pr p m (bas i) u a))) rfl (fun n' hn' => spec_l01Times p a m (bas i) u _ _ _ hp ha h0 h1 hK hm (bas_by _ _) hu) ?_
        (refine zG ?_)
        refine LS.callQ (.arr 8 (bys (bas i))) rfl (fun n' hn' => spec_l01Basis i _ _ (by omega)) ?_
        (repeat first|refine zG ?_|(refine LS.nilO ?_;intro nq hnq hltq;try refine zU ?_)|(refine MS.new ?_;intro bq hbq hbqf;try refine zU ?_)|(refine MS.nil ?_;intro nq hnq hltq;have hlq:=hltq _ _ (Hp.get_eq _ _ _);clear hltq;try refine zU ?_)|(refine LS.nilQ ?_;try with_reducible intro nq hnq;try refine zU ?_))
        refine zI ?_ ?_<;>intro h5
        · (refine zG ?_)
          exact ⟨_, H, rfl, by exact zD, by rw [tb_false (fun h => h5 (h.2.1 i (by omega)).2)], rfl⟩
        · (refine zG ?_)
          refine ⟨by omega, by (repeat first | exact trivial | refine And.intro rfl ?_), by exact zD, fun i' hi' => ?_⟩
          by_cases e : i' = i
          · subst e; exact ⟨h4, h5⟩
          · exact hJ i' (by omega)
    · have : i = a := by omega
      subst this
      (refine zG ?_)
      refine RS.call rfl ((spec_l01Fault p i m _ _ _ hp ha h0 h1 hK hm).mono ?_)
      rintro r H n4 hn4 ⟨⟨s, rfl⟩, rfl⟩
      (refine zG ?_)
      exact ⟨_, H, rfl, by exact zD, by
        rw [Bool.not_not]
        exact congrArg bl (tb_iff ⟨fun h => isAlg_nat.2 ⟨h2, fun i' h => hJ i' h, h⟩, fun h => h.2.2⟩), rfl⟩

end Go.Proofs.YtgnphaopeplfbaaGreatDoor
