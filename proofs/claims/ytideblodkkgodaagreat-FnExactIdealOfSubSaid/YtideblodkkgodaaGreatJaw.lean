/- Contracts of the program's functions. -/
import Derived.Test.YtideblodkkgodaaGreatJam
import Derived.Test.YtideblodkkgodaaGreatJal
import Derived.Test.YtideblodkkgodaaGreatJar
import Derived.Test.YtideblodkkgodaaGreatJas
import Derived.Test.YtideblodkkgodaaGreatJat
set_option linter.unusedSectionVars false
set_option linter.unusedVariables false
set_option linter.unusedSimpArgs false

namespace Go.Proofs.YtideblodkkgodaaGreat

open Go.V

variable [BW]

set_option linter.unusedSimpArgs false

set_option linter.unusedVariables false

set_option maxHeartbeats 4000000

/-- impl.isLinear -/
def ir85 : Cd := (.seq (.reg [⟨some 8,none,.mov (.c (.bool false))⟩]) (.seq (.seq (.reg [⟨some 11,none,.mov (.t 3)⟩,⟨some 12,none,.mov (.c (.int .i64 0))⟩]) (.block 0 (.loop (.seq (.reg [⟨some 13,none,.bin .lss (.t 12) (.c (.int .i64 8))⟩]) (.seq (.cond (.t 13) .skip (.exit 0)) (.seq (.block 1 (.seq (.mix [⟨some 14,none,.mov (.t 12)⟩,⟨some 15,none,.ck (.t 11)⟩,⟨some 16,none,.ia 8 8 (.t 15) (.t 12)⟩,⟨some 17,none,.ld (some 8) (.t 16)⟩] [⟨some 10,none,.new 32 [(8,(.int .u8 0))]⟩,⟨some 9,none,.mov (.t 14)⟩,⟨none,none,.st 8 (.t 10) (.t 17)⟩]) (.seq (.reg [⟨some 18,none,.mov (.t 0)⟩,⟨some 19,none,.mov (.t 2)⟩,⟨some 20,none,.ld (some 8) (.t 10)⟩,⟨some 21,none,.call 66 [(.t 18),(.t 19),(.t 20)]⟩,⟨some 22,none,.un .not (.t 21)⟩,⟨some 23,none,.mov (.t 22)⟩,⟨some 24,(some (23,false)),.mov (.t 9)⟩,⟨some 25,(some (23,false)),.mov (.t 1)⟩,⟨some 26,(some (23,false)),.bin .geq (.t 24) (.t 25)⟩,⟨some 27,(some (23,false)),.mov (.t 26)⟩,⟨some 28,(some (27,true)),.ld (some 8) (.t 10)⟩,⟨some 29,(some (27,true)),.build 8 [(8,(.int .u8 0))] []⟩,⟨some 30,(some (27,true)),.eqa true 8 (.t 28) (.t 29)⟩,⟨some 31,(some (23,false)),.pick (.t 27) (.t 30) (.c (.bool false))⟩,⟨some 32,none,.pick (.t 23) (.c (.bool true)) (.t 31)⟩]) (.cond (.t 32) (.seq (.reg [⟨some 8,none,.mov (.c (.bool false))⟩]) .ret) .skip)))) (.reg [⟨some 33,none,.bin .add (.t 12) (.c (.int .i64 1))⟩,⟨some 12,none,.mov (.t 33)⟩]))))))) (.seq (.reg [⟨some 8,none,.mov (.c (.bool true))⟩]) .ret)))

set_option maxRecDepth 100000 in
theorem tr85 : trFn Tryz.prog Tryz.f85 = some (34, ir85, [.tmp 8]) := by kernel_rfl

theorem impl_isLinear (p n' s : Int) (l : Nat → Int) (b o : Nat) (K : Blk) (H : Hp) (n : Nat) (hb : H.get b = some K) (ho : o + 64 ≤ K.size) (hc : ∀ i, i < 64 → K.c (o + i) = .int .u8 (l i)) (hl : isBy 64 l) :
    FnS Tryz.prog 85 [i64 p, i64 n', i64 s, ptr b o] H n (fun r H' _ => r = bl (tb (sz p s ∧ isLin p n' s l)) ∧ H' = H) := by
  refine FnS.of_body Tryz.func85 tr85 (by simp) (fun hf => ?_)
  dsimp only [argEnv]
  unfold ir85
  (refine zG ?_)
  refine CS.iter 8 (fun i => [(12, i64 i), (11, ptr b o), (0, i64 p), (1, i64 n'), (2, i64 s)]) (fun _ => H) (fun i => (1 ≤ i → sz p s) ∧ ∀ j : Nat, j < i → isVec p s (fun x => l (8 * j + x)) ∧ (n' ≤ j → ∀ x, x < 8 → l (8 * j + x) = 0)) (by (repeat first | exact trivial | refine And.intro rfl ?_)) (Drops.refl _ _) ⟨by omega, fun j hj => by omega⟩ ?_
  intro i n1 hi hn hJ
  (refine zG ?_)
  refine zI ?_ ?_<;>intro h1
  · (repeat first|refine zG ?_|(refine LS.nilO ?_;intro nq hnq hltq;try refine zU ?_)|(refine MS.new ?_;intro bq hbq hbqf;try refine zU ?_)|(refine MS.nil ?_;intro nq hnq hltq;have hlq:=hltq _ _ (Hp.get_eq _ _ _);clear hltq;try refine zU ?_)|(refine LS.nilQ ?_;try with_reducible intro nq hnq;try refine zU ?_))
    refine RS.call rfl ((impl_IsVector p s (fun x => l (8 * i + x)) _ _ (fun x hx => hl _ (by omega))).mono ?_)
    rintro r H' n2 hn2 ⟨rfl, rfl⟩
    (refine zG ?_)
    refine RS.sp (t := 23) rfl (fun h2 => ?_) (fun h2 => ?_) <;> (try simp only [tb_eq, tb_eqF, decide_eq_true_eq, decide_eq_false_iff_not, beq_iff_eq, bne_iff_ne, ne_eq, Decidable.not_not, beq_eq_false_iff_ne, bne_eq_false_iff_eq, Bool.not_eq_true', Bool.not_eq_false', Bool.not_eq_eq_eq_not, Bool.not_true, Bool.not_false] at h2)
    · (refine zG ?_)
      exact ⟨_, H, rfl, by exact zD, by rw [tb_false (fun h => h2 ⟨h.1, (h.2 i (by omega)).1⟩)], rfl⟩
    · (refine zG ?_)
      refine RS.sp (t := 27) rfl (fun h3 => ?_) (fun h3 => ?_) <;> (try simp only [tb_eq, tb_eqF, decide_eq_true_eq, decide_eq_false_iff_not, beq_iff_eq, bne_iff_ne, ne_eq, Decidable.not_not, beq_eq_false_iff_ne, bne_eq_false_iff_eq, Bool.not_eq_true', Bool.not_eq_false', Bool.not_eq_eq_eq_not, Bool.not_true, Bool.not_false] at h3)
      · (refine zG ?_)
        refine zI ?_ ?_<;>intro h4
        · (refine zG ?_)
          exact ⟨_, H, rfl, by exact zD, by rw [tb_false (fun h => h4 (fun x hx => (h.2 i (by omega)).2 (by omega) x hx))], rfl⟩
        · (refine zG ?_)
          refine ⟨by omega, by (repeat first | exact trivial | refine And.intro rfl ?_), by exact zD, fun _ => h2.1, fun j hj => ?_⟩
          by_cases e : j < i
          · exact hJ.2 j e
          · have : j = i := by omega
            subst this; exact ⟨h2.2, fun _ => h4⟩
      · (refine zG ?_)
        refine ⟨by omega, by (repeat first | exact trivial | refine And.intro rfl ?_), by exact zD, fun _ => h2.1, fun j hj => ?_⟩
        by_cases e : j < i
        · exact hJ.2 j e
        · have : j = i := by omega
          subst this; exact ⟨h2.2, fun h => by omega⟩
  · (refine zG ?_)
    exact ⟨_, H, rfl, by exact zD, by rw [tb_true (show sz p s ∧ isLin p n' s l from ⟨hJ.1 (by omega), fun j hj => hJ.2 j (by omega)⟩)], rfl⟩

/-- spec.l01Sizes -/
def ir108 : Cd := (.seq (.reg [⟨some 4,none,.mov (.c (.bool false))⟩]) (.seq (.reg [⟨some 5,none,.mov (.t 0)⟩,⟨some 6,none,.call 130 [(.t 5)]⟩,⟨some 7,none,.mov (.t 6)⟩,⟨some 8,(some (7,true)),.mov (.t 1)⟩,⟨some 9,(some (7,true)),.call 131 [(.t 8),(.c (.int .i64 1)),(.c (.int .i64 8))]⟩,⟨some 10,none,.pick (.t 7) (.t 9) (.c (.bool false))⟩,⟨some 4,none,.mov (.t 10)⟩]) .ret))

set_option maxRecDepth 100000 in
theorem tr108 : trFn Tryz.prog Tryz.f108 = some (11, ir108, [.tmp 4]) := by kernel_rfl

theorem spec_l01Sizes (p n' : Int) (H : Hp) (n : Nat) :
    FnS Tryz.prog 108 [i64 p, i64 n'] H n (fun v H' _ => v = bl (tb (sz p n')) ∧ H' = H) := by
  refine FnS.of_body Tryz.func108 tr108 (by simp) (fun hf => ?_)
  dsimp only [argEnv]
  unfold ir108
  (refine zG ?_)
  refine RS.call rfl ((spec_l01Prime _ _ _).mono ?_)
  rintro r H' n2 hn2 ⟨rfl, rfl⟩
  (refine zG ?_)
  refine RS.sp (t := 7) rfl (fun h1 => ?_) (fun h1 => ?_) <;> (try simp only [tb_eq, tb_eqF, decide_eq_true_eq, decide_eq_false_iff_not, beq_iff_eq, bne_iff_ne, ne_eq, Decidable.not_not, beq_eq_false_iff_ne, bne_eq_false_iff_eq, Bool.not_eq_true', Bool.not_eq_false', Bool.not_eq_eq_eq_not, Bool.not_true, Bool.not_false] at h1)
  · (refine zG ?_)
    refine RS.call rfl ((spec_l01In _ _ _ _ _).mono ?_)
    rintro r H' n3 hn3 ⟨rfl, rfl⟩
    (refine zG ?_)
    exact ⟨_, _, rfl, by exact zD, by rw [tb_iff (R := 1 ≤ n' ∧ n' ≤ 8) ⟨fun h => h.2, fun h => ⟨h1, h⟩⟩, tb_dec], rfl⟩
  · (refine zG ?_)
    exact ⟨_, _, rfl, by exact zD, by rw [tb_false (fun h => by simp [h.1] at h1)], rfl⟩

/-- spec.l02Fault -/
def ir134 : Cd := (.seq (.reg [⟨some 1,none,.box 122 (.t 0)⟩,⟨some 2,none,.mov (.c .nils)⟩,⟨some 3,none,.mov (.c (.bool false))⟩]) (.seq (.reg [⟨some 12,none,.fa 1 (.t 1)⟩,⟨some 13,none,.ld none (.t 12)⟩,⟨some 4,none,.mov (.t 13)⟩]) (.seq (.seq (.reg [⟨some 5,none,.mov (.c (.int .i64 0))⟩]) (.block 0 (.loop (.seq (.seq (.reg [⟨some 14,none,.mov (.t 5)⟩,⟨some 15,none,.mov (.t 4)⟩,⟨some 16,none,.mov (.t 4)⟩,⟨some 17,none,.bin .mul (.t 15) (.t 16)⟩,⟨some 18,none,.mov (.t 4)⟩,⟨some 19,none,.bin .mul (.t 17) (.t 18)⟩,⟨some 20,none,.mov (.t 4)⟩,⟨some 21,none,.bin .mul (.t 19) (.t 20)⟩,⟨some 22,none,.bin .lss (.t 14) (.t 21)⟩]) (.cond (.t 22) .skip (.exit 0))) (.seq (.block 1 (.seq (.drw true [] [⟨some 25,none,.mov (.t 5)⟩,⟨some 26,none,.mov (.t 4)⟩,⟨some 27,none,.mov (.t 4)⟩,⟨some 28,none,.bin .mul (.t 26) (.t 27)⟩,⟨some 29,none,.mov (.t 4)⟩,⟨some 30,none,.bin .mul (.t 28) (.t 29)⟩,⟨some 31,none,.bin .quo (.t 25) (.t 30)⟩,⟨some 32,none,.mov (.t 5)⟩,⟨some 33,none,.mov (.t 4)⟩,⟨some 34,none,.mov (.t 4)⟩,⟨some 35,none,.bin .mul (.t 33) (.t 34)⟩,⟨some 36,none,.bin .quo (.t 32) (.t 35)⟩,⟨some 37,none,.mov (.t 4)⟩,⟨some 38,none,.bin .rem (.t 36) (.t 37)⟩,⟨some 39,none,.mov (.t 5)⟩,⟨some 40,none,.mov (.t 4)⟩,⟨some 41,none,.bin .quo (.t 39) (.t 40)⟩,⟨some 42,none,.mov (.t 4)⟩,⟨some 43,none,.bin .rem (.t 41) (.t 42)⟩,⟨some 44,none,.mov (.t 5)⟩,⟨some 45,none,.mov (.t 4)⟩,⟨some 46,none,.bin .rem (.t 44) (.t 45)⟩,⟨some 6,none,.mov (.t 31)⟩,⟨some 7,none,.mov (.t 38)⟩,⟨some 8,none,.mov (.t 43)⟩,⟨some 9,none,.mov (.t 46)⟩]) (.seq (.reg [⟨some 48,none,.ld (some 522) (.t 1)⟩,⟨some 49,none,.mov (.t 6)⟩,⟨some 50,none,.mov (.t 7)⟩,⟨some 51,none,.mov (.t 8)⟩,⟨some 52,none,.mov (.t 9)⟩,⟨some 53,none,.call 144 [(.t 48),(.t 49),(.t 50),(.t 51),(.t 52)]⟩,⟨some 47,none,.mov (.t 53)⟩,⟨some 54,none,.ex (.t 47) 0⟩,⟨some 55,none,.ex (.t 47) 1⟩,⟨some 10,none,.mov (.t 54)⟩,⟨some 11,none,.mov (.t 55)⟩]) (.seq (.reg [⟨some 56,none,.mov (.t 10)⟩,⟨some 57,none,.mov (.t 11)⟩,⟨some 58,none,.bin .neq (.t 56) (.t 57)⟩]) (.cond (.t 58) (.seq (.reg [⟨some 59,none,.mov (.t 6)⟩,⟨some 60,none,.mov (.t 7)⟩,⟨some 61,none,.mov (.t 8)⟩,⟨some 62,none,.mov (.t 9)⟩,⟨some 63,none,.bsl 2 4 1 [(1,(.int .i64 0))] [(0,1,(.t 59)),(1,1,(.t 60)),(2,1,(.t 61)),(3,1,(.t 62))]⟩,⟨some 2,none,.mov (.t 63)⟩,⟨some 3,none,.mov (.c (.bool true))⟩]) .ret) .skip))))) (.reg [⟨some 23,none,.mov (.t 5)⟩,⟨some 24,none,.bin .add (.t 23) (.c (.int .i64 1))⟩,⟨some 5,none,.mov (.t 24)⟩])))))) (.seq (.reg [⟨some 2,none,.mov (.c .nils)⟩,⟨some 3,none,.mov (.c (.bool false))⟩]) .ret))))

set_option maxRecDepth 100000 in
theorem tr134 : trFn Tryz.prog Tryz.f134 = some (64, ir134, [.tmp 2, .tmp 3]) := by kernel_rfl

theorem spec_l02Fault (p : Int) (a : Nat) (c : Nat → Int) (K : Nat → SV) (H : Hp) (n : Nat) (hp : 2 ≤ p ∧ p ≤ 31) (ha1 : 1 ≤ a) (ha : a ≤ 8)
    (h0 : K 0 = .int .i64 p) (h1 : K 1 = .int .i64 a) (hK : ∀ q, q < 512 → K (10 + q) = .int .u8 (c q)) (hc : isBy 512 c) :
    FnS Tryz.prog 134 [.arr 522 K] H n (fun r H' _ => (∃ s, r = .tup [.s s, bl (!tb (coassoc p a c))]) ∧ H' = H) := by
  refine FnS.of_body Tryz.func134 tr134 (by simp) (fun hf => ?_)
  dsimp only [argEnv]
  unfold ir134
  obtain ⟨p2, p3, p4⟩ := pow4 a ha1 ha
  (refine zG ?_)
  refine CS.iter (a * a * a * a) (fun t => [(5, i64 t), (4, i64 a), (1, ptr n 0)]) (fun _ => (n, ⟨522, K, 122⟩) :: H)
    (fun t => ∀ t' : Nat, t' < t → cosum1 p c (t' / (a * a * a)) (t' / (a * a) % a) (t' / a % a) (t' % a) a = cosum2 p c (t' / (a * a * a)) (t' / (a * a) % a) (t' / a % a) (t' % a) a) (by (repeat first | exact trivial | refine And.intro rfl ?_)) (Drops.refl _ _) (fun _ h => by omega) ?_
  intro t n1 ht hn hJ
  have ht' : (t : Int) ≤ (a : Int) * a * a * a := by have := Int.ofNat_le.2 ht; simpa only [Int.natCast_mul] using this
  have q1 : 0 ≤ (t : Int) / ((a : Int) * a) ∧ (t : Int) / ((a : Int) * a) ≤ t := ⟨Int.ediv_nonneg (by omega) (by omega), Int.ediv_le_self _ (by omega)⟩
  have q2 : 0 ≤ (t : Int) / (a : Int) ∧ (t : Int) / (a : Int) ≤ t := ⟨Int.ediv_nonneg (by omega) (by omega), Int.ediv_le_self _ (by omega)⟩
  (refine zG ?_)
  refine zI ?_ ?_<;>intro h2
  · have htl : t < a * a * a * a := by have h3 : (t : Int) < ((a * a * a * a : Nat) : Int) := by (simp only [Int.natCast_mul]; exact h2)
                                       exact Int.ofNat_lt.1 h3
    obtain ⟨i1, i2, i3, i4⟩ := idx4 a t ha1 htl
    (repeat first|refine zG ?_|(refine LS.nilO ?_;intro nq hnq hltq;try refine zU ?_)|(refine MS.new ?_;intro bq hbq hbqf;try refine zU ?_)|(refine MS.nil ?_;intro nq hnq hltq;have hlq:=hltq _ _ (Hp.get_eq _ _ _);clear hltq;try refine zU ?_)|(refine LS.nilQ ?_;try with_reducible intro nq hnq;try refine zU ?_))
    refine RS.call rfl ((FnS.args (concs_cons (conc_arr (fun q hq => rfl)) rfl) (spec_l02Sums p a (t / (a * a * a)) (t / (a * a) % a) (t / a % a) (t % a) _ _ _ _ c K _ _ hp ha ⟨i1, by push_cast; rfl⟩ ⟨i2, by push_cast; rfl⟩ ⟨i3, by push_cast; rfl⟩ ⟨i4, by push_cast; rfl⟩ h0 h1 hK hc)).mono ?_)
    rintro r H n2 hn2 ⟨rfl, rfl⟩
    (refine zG ?_)
    refine zI ?_ ?_<;>intro h3
    · (refine zG ?_)
      exact ⟨_, H, rfl, by exact zD, ⟨_, by rw [tb_false (fun h : coassoc p a c => h3 (h t htl))]; rfl⟩, rfl⟩
    · (refine zG ?_)
      refine ⟨by omega, by (repeat first | exact trivial | refine And.intro rfl ?_), Drops.refl _ _, fun t' ht' => ?_⟩
      by_cases e : t' = t
      · subst e; exact h3
      · exact hJ t' (by omega)
  · have : t = a * a * a * a := by
      have h3 : ¬(t : Int) < ((a * a * a * a : Nat) : Int) := by (simp only [Int.natCast_mul]; exact h2)
      have : ¬ t < a * a * a * a := fun h => h3 (Int.ofNat_lt.2 h)
      omega
    subst this
    (refine zG ?_)
    exact ⟨_, H, rfl, by exact zD, ⟨_, by rw [tb_true (show coassoc p a c from fun t' ht' => hJ t' ht')]; rfl⟩, rfl⟩

/-- (*impl.Hopf).coproduct -/
def ir72 : Cd := (.seq (.reg [⟨some 3,none,.box 32 (.t 1)⟩,⟨some 4,none,.new 34 [(64,(.int .u8 0))]⟩]) (.seq (.reg [⟨some 10,none,.mov (.t 0)⟩,⟨some 11,none,.call 28 [(.t 10)]⟩,⟨some 12,none,.build 64 [(64,(.int .u8 0))] []⟩,⟨some 5,none,.new 62 [(2,(.int .i64 0))]⟩,⟨some 6,none,.new 34 [(64,(.int .u8 0))]⟩,⟨none,none,.st 2 (.t 5) (.t 11)⟩,⟨none,none,.st 64 (.t 6) (.t 12)⟩]) (.seq (.seq (.reg [⟨some 13,none,.ld (some 8) (.t 3)⟩,⟨some 14,none,.mov (.c (.int .i64 0))⟩]) (.block 0 (.loop (.seq (.reg [⟨some 15,none,.bin .lss (.t 14) (.c (.int .i64 8))⟩]) (.seq (.cond (.t 15) .skip (.exit 0)) (.seq (.block 1 (.seq (.reg [⟨some 16,none,.mov (.t 14)⟩,⟨some 17,none,.ix 8 1 none (.t 13) (.t 14)⟩,⟨some 7,none,.mov (.t 16)⟩,⟨some 8,none,.mov (.t 17)⟩]) (.seq (.reg [⟨some 9,none,.mov (.c (.int .i64 0))⟩]) (.block 2 (.loop (.seq (.seq (.reg [⟨some 18,none,.mov (.t 8)⟩,⟨some 19,none,.bin .neq (.t 18) (.c (.int .u8 0))⟩,⟨some 20,none,.mov (.t 19)⟩,⟨some 21,(some (20,true)),.mov (.t 9)⟩,⟨some 22,(some (20,true)),.fa 1 (.t 5)⟩,⟨some 23,(some (20,true)),.ld none (.t 22)⟩,⟨some 24,(some (20,true)),.bin .lss (.t 21) (.t 23)⟩,⟨some 25,none,.pick (.t 20) (.t 24) (.c (.bool false))⟩]) (.cond (.t 25) .skip (.exit 2))) (.seq (.block 3 (.drw true [13] [⟨some 28,none,.ld (some 2) (.t 5)⟩,⟨some 29,none,.mov (.t 9)⟩,⟨some 30,none,.ia 8 8 (.t 6) (.t 29)⟩,⟨some 31,none,.mov (.t 8)⟩,⟨some 32,none,.cv .i64 (.t 31)⟩,⟨some 33,none,.mov (.t 0)⟩,⟨some 34,none,.mov (.t 7)⟩,⟨some 35,none,.mov (.t 9)⟩,⟨some 36,none,.ck (.t 33)⟩,⟨some 37,none,.fa 530 (.t 36)⟩,⟨some 38,none,.ia 8 64 (.t 37) (.t 34)⟩,⟨some 39,none,.ia 8 8 (.t 38) (.t 35)⟩,⟨some 40,none,.ld (some 8) (.t 39)⟩,⟨some 41,none,.call 30 [(.t 28),(.t 30),(.t 32),(.t 40)]⟩])) (.reg [⟨some 26,none,.mov (.t 9)⟩,⟨some 27,none,.bin .add (.t 26) (.c (.int .i64 1))⟩,⟨some 9,none,.mov (.t 27)⟩])))))))) (.reg [⟨some 42,none,.bin .add (.t 14) (.c (.int .i64 1))⟩,⟨some 14,none,.mov (.t 42)⟩]))))))) (.seq (.reg [⟨some 43,none,.ld (some 64) (.t 6)⟩,⟨none,none,.st 64 (.t 4) (.t 43)⟩]) .ret))))

set_option maxRecDepth 100000 in
theorem tr72 : trFn Tryz.prog Tryz.f72 = some (44, ir72, [.cell (some 64) 4]) := by kernel_rfl

theorem Hopf_coproduct (h : HT) (a : Nat) (v : Nat → Int) (b : Nat) (K : Blk) (H : Hp) (n : Nat) (hS : HS h a) (hb : H.get b = some K) (hsz : K.size = 1106) (hK : h.At K.c) (hB : h.By) (hv : isBy 8 v) :
    FnS Tryz.prog 72 [ptr b 0, .arr 8 (bys v)] H n (fun r H' _ => r = .arr 64 (bys (cps h.p h.c v 8)) ∧ H' = H) := by
  have hp := hS.hp
  have ha := hS.ha
  have hk1 := hK.n
  rw [hS.hn] at hk1
  have hk5 := hK.c
  refine FnS.of_body Tryz.func72 tr72 (by simp) (fun hf => ?_)
  dsimp only [argEnv]
  unfold ir72
  have hbn := getlt hf hb
  (refine zG ?_)
  refine RS.call rfl ((Hopf_field h.p a b K _ _ (by exact zH) hsz hK.p hk1 (by omega)).mono ?_)
  rintro r H n2 hn2 ⟨rfl, rfl⟩
  (refine zG ?_)
  refine CS.iter 8 (fun i => [(14, i64 i), (13, .arr 8 (bys v)), (0, ptr b 0), (4, ptr (n + 1) 0), (5, ptr n2 0), (6, ptr (n2 + 1) 0)])
    (fun i => (n2 + 1, ⟨64, bys (cps h.p h.c v i), 34⟩) :: (n2, ⟨2, fldC h.p a, 62⟩) :: (n + 1, ⟨64, bys (fun _ => 0), 34⟩) :: H) (fun _ => True) (by (repeat first | exact trivial | refine And.intro rfl ?_))
    (Drops.keepc rfl rfl (fun _ _ => by rw [cps_zero]; rfl) (Drops.keepc rfl rfl (fun _ _ => rfl) (Drops.keepc rfl rfl (fun _ _ => rfl) (by exact zD)))) trivial ?_
  intro i n3 hi hn _
  (refine zG ?_)
  refine zI ?_ ?_<;>intro h2
  · have hvi := hv i (by omega)
    (refine zG ?_)
    refine CS.iter a (fun j => [(9, i64 j), (7, i64 i), (8, u8 (v i)), (14, i64 i), (13, .arr 8 (bys v)), (0, ptr b 0), (4, ptr (n + 1) 0), (5, ptr n2 0), (6, ptr (n2 + 1) 0)])
      (fun j => (n2 + 1, ⟨64, bys (rowsTo (cps h.p h.c v i) (cps h.p h.c v (i + 1)) j), 34⟩) :: (n2, ⟨2, fldC h.p a, 62⟩) :: (n + 1, ⟨64, bys (fun _ => 0), 34⟩) :: H) (fun _ => True) (by (repeat first | exact trivial | refine And.intro rfl ?_))
      (Drops.keepc rfl rfl (fun _ _ => by rw [rowsTo_zero]) (Drops.refl _ _)) trivial ?_
    intro j n4 hj hn4 _
    (refine zG ?_)
    refine RS.sp (t := 20) rfl (fun h3 => ?_) (fun h3 => ?_) <;> (try simp only [tb_eq, tb_eqF, decide_eq_true_eq, decide_eq_false_iff_not, beq_iff_eq, bne_iff_ne, ne_eq, Decidable.not_not, beq_eq_false_iff_ne, bne_eq_false_iff_eq, Bool.not_eq_true', Bool.not_eq_false', Bool.not_eq_eq_eq_not, Bool.not_true, Bool.not_false] at h3)
    · (refine zG ?_)
      refine zI ?_ ?_<;>intro h4
      · (repeat first|refine zG ?_|(refine LS.nilO ?_;intro nq hnq hltq;try refine zU ?_)|(refine MS.new ?_;intro bq hbq hbqf;try refine zU ?_)|(refine MS.nil ?_;intro nq hnq hltq;have hlq:=hltq _ _ (Hp.get_eq _ _ _);clear hltq;try refine zU ?_)|(refine LS.nilQ ?_;try with_reducible intro nq hnq;try refine zU ?_))
        refine RS.call rfl ((field_plus h.p a (v i) (fun y => cps h.p h.c v i (8 * j + y)) (fun y => h.c (64 * i + 8 * j + y)) (n2 + 1) (8 * j) ⟨64, bys (rowsTo (cps h.p h.c v i) (cps h.p h.c v (i + 1)) j), 34⟩ _ _ hp (by exact zH) (show 8 * j + 8 ≤ 64 by omega)
          (fun y hy => by simp only [bys, rowsTo]; rw [if_neg (by omega)]) (fun y hy => cps_res hp.1 _ _ _ 64 _ (by omega)) (fun x hx => hB.c _ (by omega)) (by omega)).mono ?_)
        rintro r H n5 hn5 ⟨rfl, rfl⟩
        simp (disch := omega) only [Hp.set_eq, Hp.set_ne]
        (refine zG ?_)
        exact ⟨by omega, by (repeat first | exact trivial | refine And.intro rfl ?_), Drops.keepc rfl rfl (fun q hq => rowsTo_step (fun y hy => cps_row _ _ _ _ _ _) q) (Drops.refl _ _), trivial⟩
      · have : j = a := by omega
        subst this
        (refine zG ?_)
        exact ⟨by omega, by (repeat first | exact trivial | refine And.intro rfl ?_), Drops.keepc rfl rfl (fun q hq => by simp only [bys]; rw [rowsTo_all (fun q h1 h2 => cps_out hS.cm (by omega) h1 h2) hq]) (Drops.refl _ _), trivial⟩
    · (refine zG ?_)
      exact ⟨by omega, by (repeat first | exact trivial | refine And.intro rfl ?_), Drops.keepc rfl rfl (fun q hq => by simp only [bys, rowsTo]; rw [cps_same h3]; split <;> rfl) (Drops.refl _ _), trivial⟩
  · have : i = 8 := by omega
    subst this
    (refine zG ?_)
    exact ⟨.arr 64 (bys (cps h.p h.c v 8)), H, conc_arr (fun q hq => by first | rfl | (simp only [Nat.zero_add]; done) | (simp only [Nat.zero_add]; rfl)), by exact zD, rfl, rfl⟩

/-- (*impl.Hopf).tensor$1$1 -/
def ir140 : Cd := (.seq (.drw true [] [⟨some 14,none,.ld none (.t 3)⟩,⟨some 15,none,.ld none (.t 4)⟩,⟨some 16,none,.mov (.t 0)⟩,⟨some 17,none,.ck (.t 14)⟩,⟨some 18,none,.fa 10 (.t 17)⟩,⟨some 19,none,.ia 8 64 (.t 18) (.t 15)⟩,⟨some 20,none,.ia 8 8 (.t 19) (.t 16)⟩,⟨some 21,none,.ld (some 8) (.t 20)⟩,⟨some 22,none,.mov (.c (.int .i64 0))⟩]) (.block 0 (.loop (.seq (.reg [⟨some 23,none,.bin .lss (.t 22) (.c (.int .i64 8))⟩]) (.seq (.cond (.t 23) .skip (.exit 0)) (.seq (.block 1 (.seq (.reg [⟨some 24,none,.mov (.t 22)⟩,⟨some 25,none,.ix 8 1 none (.t 21) (.t 22)⟩,⟨some 12,none,.mov (.t 24)⟩,⟨some 13,none,.mov (.t 25)⟩]) (.drw true [20] [⟨some 26,none,.ld (some 2) (.t 5)⟩,⟨some 27,none,.mov (.t 12)⟩,⟨some 28,none,.ia 8 8 (.t 6) (.t 27)⟩,⟨some 29,none,.ld none (.t 7)⟩,⟨some 30,none,.mov (.t 2)⟩,⟨some 31,none,.bin .mul (.t 29) (.t 30)⟩,⟨some 32,none,.fa 0 (.t 5)⟩,⟨some 33,none,.ld none (.t 32)⟩,⟨some 34,none,.bin .rem (.t 31) (.t 33)⟩,⟨some 35,none,.mov (.t 13)⟩,⟨some 36,none,.cv .i64 (.t 35)⟩,⟨some 37,none,.bin .mul (.t 34) (.t 36)⟩,⟨some 38,none,.ld none (.t 3)⟩,⟨some 39,none,.ld none (.t 8)⟩,⟨some 40,none,.mov (.t 1)⟩,⟨some 41,none,.ck (.t 38)⟩,⟨some 42,none,.fa 10 (.t 41)⟩,⟨some 43,none,.ia 8 64 (.t 42) (.t 39)⟩,⟨some 44,none,.ia 8 8 (.t 43) (.t 40)⟩,⟨some 45,none,.ld (some 8) (.t 44)⟩,⟨some 46,none,.call 30 [(.t 26),(.t 28),(.t 37),(.t 45)]⟩]))) (.reg [⟨some 47,none,.bin .add (.t 22) (.c (.int .i64 1))⟩,⟨some 22,none,.mov (.t 47)⟩])))))))

set_option maxRecDepth 100000 in
theorem tr140 : trFn Tryz.prog Tryz.f140 = some (48, ir140, []) := by kernel_rfl

theorem Hopf_tensor_2 (h : HT) (a : Nat) (A B : Nat → Int) (t j k s l i' : Nat) (ht : t = 8 * j + k) (hj : j < 8) (hk : k < 8) (hs : s = 8 * l + i') (hl : l < 8) (hi' : i' < 8)
    (b bh bj bf bo bx bk : Nat) (K Kh Kj Kx Kk : Blk) (H : Hp) (n : Nat) (hS : HS h a) (hb : H.get b = some K) (hsz : K.size = 1106) (hK : h.At K.c) (hB : h.By) (hA : isBy 64 A) (hBb : isBy 64 B)
    (gh : H.get bh = some Kh) (sh : Kh.size = 1) (ch : Kh.c 0 = .ptr b 0) (gj : H.get bj = some Kj) (sj : Kj.size = 1) (cj : Kj.c 0 = .int .i64 j) (gf : H.get bf = some ⟨2, fldC h.p a, 62⟩)
    (go : H.get bo = some ⟨64, bys (tns h.p h.m A B t s), 34⟩) (gx : H.get bx = some Kx) (sx : Kx.size = 1) (cx : Kx.c 0 = .int .i64 (A t)) (gk : H.get bk = some Kk) (sk : Kk.size = 1) (ck : Kk.c 0 = .int .i64 k)
    (d1 : bo ≠ b) (d2 : bo ≠ bh) (d3 : bo ≠ bj) (d4 : bo ≠ bf) (d5 : bo ≠ bx) (d6 : bo ≠ bk) :
    FnS Tryz.prog 140 [i64 l, i64 i', i64 (B s), ptr bh 0, ptr bj 0, ptr bf 0, ptr bo 0, ptr bx 0, ptr bk 0] H n (fun _ H' _ => H' = H.set bo (bys (tns h.p h.m A B t (s + 1)))) := by
  have hp := hS.hp
  have ha := hS.ha
  have hk5 := hK.m
  have hs0 : H.set bo (bys (tns h.p h.m A B t s)) = H := Hp.set_self go
  have hAt := hA t (by omega)
  have hBs := hBb s (by omega)
  have hAB := mulB hAt.1 hAt.2 hBs.1 hBs.2
  have hr := modB (A t * B s) hp.1
  refine FnS.of_body Tryz.func140 tr140 (by simp) (fun hf => ?_)
  dsimp only [argEnv]
  unfold ir140
  have hbn := getlt hf hb
  (repeat first|refine zG ?_|(refine LS.nilO ?_;intro nq hnq hltq;try refine zU ?_)|(refine MS.new ?_;intro bq hbq hbqf;try refine zU ?_)|(refine MS.nil ?_;intro nq hnq hltq;have hlq:=hltq _ _ (Hp.get_eq _ _ _);clear hltq;try refine zU ?_)|(refine LS.nilQ ?_;try with_reducible intro nq hnq;try refine zU ?_))
  refine CS.iter 8 (fun i => [(22, i64 i), (21, .arr 8 (bys (fun x => h.m (64 * j + 8 * l + x)))), (1, i64 i'), (2, i64 (B s)), (3, ptr bh 0), (5, ptr bf 0), (6, ptr bo 0), (7, ptr bx 0), (8, ptr bk 0)])
    (fun i => H.set bo (bys (rowsTo (tns h.p h.m A B t s) (tns h.p h.m A B t (s + 1)) i))) (fun _ => True) (by (repeat first | exact trivial | refine And.intro rfl ?_)) (by rw [rowsTo_zero, hs0]; exact Drops.refl _ _) trivial ?_
  intro i n3 hi hn _
  (refine zG ?_)
  refine zI ?_ ?_<;>intro h2
  · have hz := hB.m (64 * j + 8 * l + i) (by omega)
    have hzz := mulB hr.1 (show _ ≤ 31 by omega) hz.1 hz.2
    (repeat first|refine zG ?_|(refine LS.nilO ?_;intro nq hnq hltq;try refine zU ?_)|(refine MS.new ?_;intro bq hbq hbqf;try refine zU ?_)|(refine MS.nil ?_;intro nq hnq hltq;have hlq:=hltq _ _ (Hp.get_eq _ _ _);clear hltq;try refine zU ?_)|(refine LS.nilQ ?_;try with_reducible intro nq hnq;try refine zU ?_))
    refine RS.call rfl ((field_plus h.p a (A t * B s % h.p * h.m (64 * j + 8 * l + i)) (fun y => tns h.p h.m A B t s (8 * i + y)) (fun y => h.m (64 * k + 8 * i' + y)) bo (8 * i) ⟨64, bys (rowsTo (tns h.p h.m A B t s) (tns h.p h.m A B t (s + 1)) i), 34⟩ _ _ hp (Hp.get_set_self _ go) (show 8 * i + 8 ≤ 64 by omega)
      (fun y hy => by simp only [bys, rowsTo]; rw [if_neg (by omega)]) (fun y hy => tns_res hp.1 _ _ _ _ _ 64 _ (by omega)) (fun x hx => hB.m _ (by omega)) (by omega)).mono ?_)
    rintro r H' n5 hn5 ⟨rfl, rfl⟩
    simp only [Hp.set_set]
    (refine zG ?_)
    refine ⟨by omega, by (repeat first | exact trivial | refine And.intro rfl ?_), Drops.setc go (fun q hq => rowsTo_step (fun y hy => ?_) q), trivial⟩
    rw [← tns_row h.p h.m A B t s i y hy, ht, hs, show (8 * j + k) / 8 = j by omega, show (8 * j + k) % 8 = k by omega, show (8 * l + i') / 8 = l by omega, show (8 * l + i') % 8 = i' by omega]
  · have : i = 8 := by omega
    subst this
    (refine zG ?_)
    exact ⟨_, H.set bo (bys (tns h.p h.m A B t (s + 1))), rfl, Drops.setc go (fun q hq => by simp only [bys]; rw [rowsTo_all (n := 8) (N := 64) (fun q h1 h2 => by omega) hq]), rfl⟩

/-- (*impl.Hopf).axiom5 -/
def ir92 : Cd := (.seq (.reg [⟨some 2,none,.mov (.c (.bool false))⟩]) (.seq (.reg [⟨some 6,none,.mov (.t 0)⟩,⟨some 7,none,.call 28 [(.t 6)]⟩,⟨some 3,none,.new 62 [(2,(.int .i64 0))]⟩,⟨none,none,.st 2 (.t 3) (.t 7)⟩]) (.seq (.seq (.reg [⟨some 8,none,.fa 1 (.t 3)⟩,⟨some 9,none,.ld none (.t 8)⟩,⟨some 10,none,.mov (.c (.int .i64 0))⟩]) (.block 0 (.loop (.seq (.reg [⟨some 11,none,.bin .lss (.t 10) (.t 9)⟩]) (.seq (.cond (.t 11) .skip (.exit 0)) (.seq (.block 1 (.seq (.reg [⟨some 12,none,.mov (.t 10)⟩,⟨some 4,none,.mov (.t 12)⟩]) (.seq (.reg [⟨some 13,none,.fa 1 (.t 3)⟩,⟨some 14,none,.ld none (.t 13)⟩,⟨some 15,none,.mov (.c (.int .i64 0))⟩]) (.block 2 (.loop (.seq (.reg [⟨some 16,none,.bin .lss (.t 15) (.t 14)⟩]) (.seq (.cond (.t 16) .skip (.exit 2)) (.seq (.block 3 (.seq (.reg [⟨some 17,none,.mov (.t 15)⟩,⟨some 5,none,.mov (.t 17)⟩]) (.seq (.drw true [] [⟨some 18,none,.mov (.t 0)⟩,⟨some 19,none,.mov (.t 0)⟩,⟨some 20,none,.mov (.t 4)⟩,⟨some 21,none,.mov (.t 5)⟩,⟨some 22,none,.ck (.t 19)⟩,⟨some 23,none,.fa 10 (.t 22)⟩,⟨some 24,none,.ia 8 64 (.t 23) (.t 20)⟩,⟨some 25,none,.ia 8 8 (.t 24) (.t 21)⟩,⟨some 26,none,.ld (some 8) (.t 25)⟩,⟨some 27,none,.call 31 [(.t 18),(.t 26)]⟩,⟨some 28,none,.mov (.t 0)⟩,⟨some 29,none,.mov (.t 4)⟩,⟨some 30,none,.ck (.t 28)⟩,⟨some 31,none,.fa 522 (.t 30)⟩,⟨some 32,none,.ia 8 1 (.t 31) (.t 29)⟩,⟨some 33,none,.ld none (.t 32)⟩,⟨some 34,none,.cv .i64 (.t 33)⟩,⟨some 35,none,.mov (.t 0)⟩,⟨some 36,none,.mov (.t 5)⟩,⟨some 37,none,.ck (.t 35)⟩,⟨some 38,none,.fa 522 (.t 37)⟩,⟨some 39,none,.ia 8 1 (.t 38) (.t 36)⟩,⟨some 40,none,.ld none (.t 39)⟩,⟨some 41,none,.cv .i64 (.t 40)⟩,⟨some 42,none,.bin .mul (.t 34) (.t 41)⟩,⟨some 43,none,.fa 0 (.t 3)⟩,⟨some 44,none,.ld none (.t 43)⟩,⟨some 45,none,.bin .rem (.t 42) (.t 44)⟩,⟨some 46,none,.bin .neq (.t 27) (.t 45)⟩]) (.cond (.t 46) (.seq (.reg [⟨some 2,none,.mov (.c (.bool false))⟩]) .ret) .skip)))) (.reg [⟨some 47,none,.bin .add (.t 15) (.c (.int .i64 1))⟩,⟨some 15,none,.mov (.t 47)⟩]))))))))) (.reg [⟨some 48,none,.bin .add (.t 10) (.c (.int .i64 1))⟩,⟨some 10,none,.mov (.t 48)⟩]))))))) (.seq (.reg [⟨some 49,none,.mov (.t 0)⟩,⟨some 50,none,.mov (.t 0)⟩,⟨some 51,none,.ck (.t 50)⟩,⟨some 52,none,.fa 2 (.t 51)⟩,⟨some 53,none,.ld (some 8) (.t 52)⟩,⟨some 54,none,.call 31 [(.t 49),(.t 53)]⟩,⟨some 55,none,.bin .eql (.t 54) (.c (.int .i64 1))⟩,⟨some 2,none,.mov (.t 55)⟩]) .ret))))

set_option maxRecDepth 100000 in
theorem tr92 : trFn Tryz.prog Tryz.f92 = some (56, ir92, [.tmp 2]) := by kernel_rfl

theorem Hopf_axiom5 (h : HT) (a : Nat) (b : Nat) (K : Blk) (H : Hp) (n : Nat) (hS : HS h a) (hb : H.get b = some K) (hsz : K.size = 1106) (hK : h.At K.c) (hB : h.By) :
    FnS Tryz.prog 92 [ptr b 0] H n (fun r H' _ => r = bl (tb (ax5 h)) ∧ H' = H) := by
  have hp := hS.hp
  have ha := hS.ha
  have hk1 := hK.n
  rw [hS.hn] at hk1
  have hk5 := hK.m
  have hk6 := hK.e
  have hk7 := hK.u
  refine FnS.of_body Tryz.func92 tr92 (by simp) (fun hf => ?_)
  dsimp only [argEnv]
  unfold ir92
  have hbn := getlt hf hb
  (refine zG ?_)
  refine RS.call rfl ((Hopf_field h.p a b K _ _ (by exact zH) hsz hK.p hk1 (by omega)).mono ?_)
  rintro r H n2 hn2 ⟨rfl, rfl⟩
  (refine zG ?_)
  refine CS.iter a (fun i => [(10, i64 i), (9, i64 a), (3, ptr n2 0), (0, ptr b 0)]) (fun _ => (n2, ⟨2, fldC h.p a, 62⟩) :: H)
    (fun i => ∀ i' j : Nat, i' < i → j < a → dotk h.p h.e (fun x => h.m (64 * i' + 8 * j + x)) 8 = h.e i' * h.e j % h.p) (by (repeat first | exact trivial | refine And.intro rfl ?_)) (by exact zD) (fun _ _ h => by omega) ?_
  intro i n1 hi hn hJ
  (refine zG ?_)
  refine zI ?_ ?_<;>intro h2
  · (refine zG ?_)
    refine CS.iter a (fun j => [(15, i64 j), (14, i64 a), (4, i64 i), (10, i64 i), (9, i64 a), (3, ptr n2 0), (0, ptr b 0)]) (fun _ => (n2, ⟨2, fldC h.p a, 62⟩) :: H)
      (fun j => ∀ j' : Nat, j' < j → dotk h.p h.e (fun x => h.m (64 * i + 8 * j' + x)) 8 = h.e i * h.e j' % h.p) (by (repeat first | exact trivial | refine And.intro rfl ?_)) (Drops.refl _ _) (fun _ h => by omega) ?_
    intro j n3 hj hn3 hJ2
    (refine zG ?_)
    refine zI ?_ ?_<;>intro h3
    · have hei := hB.e i (by omega)
      have hej := hB.e j (by omega)
      have hee := mulB hei.1 hei.2 hej.1 hej.2
      (refine zG ?_)
      refine LS.callQ (i64 (dotk h.p h.e (fun x => h.m (64 * i + 8 * j + x)) 8)) rfl (fun n' hn' => Hopf_counit h a (fun x => h.m (64 * i + 8 * j + x)) b K _ _ hS (by exact zH) hsz hK hB (hB.rowm (by omega) (by omega))) ?_
      (repeat first|refine zG ?_|(refine LS.nilO ?_;intro nq hnq hltq;try refine zU ?_)|(refine MS.new ?_;intro bq hbq hbqf;try refine zU ?_)|(refine MS.nil ?_;intro nq hnq hltq;have hlq:=hltq _ _ (Hp.get_eq _ _ _);clear hltq;try refine zU ?_)|(refine LS.nilQ ?_;try with_reducible intro nq hnq;try refine zU ?_))
      refine zI ?_ ?_<;>intro h4
      · (refine zG ?_)
        exact ⟨_, H, rfl, by exact zD, by rw [tb_false (fun q => h4 (q.1 i j (by rw [hS.N]; omega) (by rw [hS.N]; omega)))], rfl⟩
      · (refine zG ?_)
        refine ⟨by omega, by (repeat first | exact trivial | refine And.intro rfl ?_), Drops.refl _ _, fun j' hj' => ?_⟩
        by_cases e : j' = j
        · subst e; exact h4
        · exact hJ2 j' (by omega)
    · have : j = a := by omega
      subst this
      (refine zG ?_)
      refine ⟨by omega, by (repeat first | exact trivial | refine And.intro rfl ?_), Drops.refl _ _, fun i' j' hi' => ?_⟩
      by_cases e : i' = i
      · subst e; exact fun hj' => hJ2 j' hj'
      · exact hJ i' j' (by omega)
  · have : i = a := by omega
    subst this
    (refine zG ?_)
    refine RS.call rfl ((Hopf_counit h i h.u b K _ _ hS (by exact zH) hsz hK hB hB.u).mono ?_)
    rintro r H4 n3 hn3 ⟨rfl, rfl⟩
    (refine zG ?_)
    exact ⟨_, H, rfl, by exact zD, by
      rw [tb_iff (R := dotk h.p h.e h.u 8 = 1) ⟨fun q => q.2, fun q => ⟨fun i' j' h1 h2 => by rw [hS.N] at h1 h2; exact hJ i' j' h1 h2, q⟩⟩, tb_dec]
      rfl, rfl⟩

end Go.Proofs.YtideblodkkgodaaGreat
