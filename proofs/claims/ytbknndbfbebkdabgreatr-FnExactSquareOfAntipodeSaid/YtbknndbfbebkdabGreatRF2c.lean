/- Contracts of the program's functions. -/
import Derived.Test.YtbknndbfbebkdabGreatRR
import Derived.Test.YtbknndbfbebkdabGreatRLW
import Derived.Test.YtbknndbfbebkdabGreatRF1a
import Derived.Test.YtbknndbfbebkdabGreatRF1b
import Derived.Test.YtbknndbfbebkdabGreatRF1c
namespace Go.Proofs.YtbknndbfbebkdabGreatR
open Go.V
set_option linter.unusedSimpArgs false
set_option linter.unusedVariables false
set_option maxHeartbeats 4000000
/-- impl.isLinear -/
def ir59 : Cd := (.seq (.reg [⟨some 8,none,.mov (.c (.bool false))⟩]) (.seq (.seq (.reg [⟨some 11,none,.mov (.t 3)⟩,⟨some 12,none,.mov (.c (.int .i64 0))⟩]) (.block 0 (.loop (.seq (.reg [⟨some 13,none,.bin .lss (.t 12) (.c (.int .i64 8))⟩]) (.seq (.cond (.t 13) .skip (.exit 0)) (.seq (.block 1 (.seq (.mix [⟨some 14,none,.mov (.t 12)⟩,⟨some 15,none,.ck (.t 11)⟩,⟨some 16,none,.ia 8 8 (.t 15) (.t 12)⟩,⟨some 17,none,.ld (some 8) (.t 16)⟩] [⟨some 10,none,.new 27 [(8,(.int .u8 0))]⟩,⟨some 9,none,.mov (.t 14)⟩,⟨none,none,.st 8 (.t 10) (.t 17)⟩]) (.seq (.reg [⟨some 18,none,.mov (.t 0)⟩,⟨some 19,none,.mov (.t 2)⟩,⟨some 20,none,.ld (some 8) (.t 10)⟩,⟨some 21,none,.call 88 [(.t 18),(.t 19),(.t 20)]⟩,⟨some 22,none,.un .not (.t 21)⟩,⟨some 23,none,.mov (.t 22)⟩,⟨some 24,(some (23,false)),.mov (.t 9)⟩,⟨some 25,(some (23,false)),.mov (.t 1)⟩,⟨some 26,(some (23,false)),.bin .geq (.t 24) (.t 25)⟩,⟨some 27,(some (23,false)),.mov (.t 26)⟩,⟨some 28,(some (27,true)),.ld (some 8) (.t 10)⟩,⟨some 29,(some (27,true)),.build 8 [(8,(.int .u8 0))] []⟩,⟨some 30,(some (27,true)),.eqa true 8 (.t 28) (.t 29)⟩,⟨some 31,(some (23,false)),.pick (.t 27) (.t 30) (.c (.bool false))⟩,⟨some 32,none,.pick (.t 23) (.c (.bool true)) (.t 31)⟩]) (.cond (.t 32) (.seq (.reg [⟨some 8,none,.mov (.c (.bool false))⟩]) .ret) .skip)))) (.reg [⟨some 33,none,.bin .add (.t 12) (.c (.int .i64 1))⟩,⟨some 12,none,.mov (.t 33)⟩]))))))) (.seq (.reg [⟨some 8,none,.mov (.c (.bool true))⟩]) .ret)))
set_option maxRecDepth 100000 in
theorem tr59 : trFn Tryz.prog Tryz.f59 = some (34, ir59, [.tmp 8]) := by kernel_rfl
theorem impl_isLinear (p n' s : Int) (l : Nat → Int) (b o : Nat) (K : Blk) (H : Hp) (n : Nat) (hb : H.get b = some K) (ho : o + 64 ≤ K.size) (hc : ∀ i, i < 64 → K.c (o + i) = .int .u8 (l i)) (hl : isBy 64 l) :
    FnS Tryz.prog 59 [i64 p, i64 n', i64 s, ptr b o] H n (fun r H' _ => r = bl (tb (sz p s ∧ isLin p n' s l)) ∧ H' = H) := by
  refine FnS.of_body Tryz.func59 tr59 (by simp) (fun hf => ?_)
  dsimp only [argEnv]
  unfold ir59
  (repeat first|refine zG ?_|(refine LS.nilO ?_;intro nq hnq hltq;try refine zU ?_)|(refine MS.new ?_;intro bq hbq hbqf;try refine zU ?_)|(refine MS.nil ?_;intro nq hnq hltq;have hlq:=hltq _ _ (Hp.get_eq _ _ _);clear hltq;try refine zU ?_)|(refine LS.nilQ ?_;try with_reducible intro nq hnq;try refine zU ?_))
  refine CS.iter 8 (fun i => [(12, i64 i), (11, ptr b o), (0, i64 p), (1, i64 n'), (2, i64 s)]) (fun _ => H) (fun i => (1 ≤ i → sz p s) ∧ ∀ j : Nat, j < i → isVec p s (fun x => l (8 * j + x)) ∧ (n' ≤ j → ∀ x, x < 8 → l (8 * j + x) = 0)) (by (repeat first | exact trivial | refine And.intro rfl ?_)) (Drops.refl _ _) ⟨by omega, fun j hj => by omega⟩ ?_
  intro i n1 hi hn hJ
  (repeat first|refine zG ?_|(refine LS.nilO ?_;intro nq hnq hltq;try refine zU ?_)|(refine MS.new ?_;intro bq hbq hbqf;try refine zU ?_)|(refine MS.nil ?_;intro nq hnq hltq;have hlq:=hltq _ _ (Hp.get_eq _ _ _);clear hltq;try refine zU ?_)|(refine LS.nilQ ?_;try with_reducible intro nq hnq;try refine zU ?_))
  refine zI ?_ ?_<;>intro h1
  · (repeat first|refine zG ?_|(refine LS.nilO ?_;intro nq hnq hltq;try refine zU ?_)|(refine MS.new ?_;intro bq hbq hbqf;try refine zU ?_)|(refine MS.nil ?_;intro nq hnq hltq;have hlq:=hltq _ _ (Hp.get_eq _ _ _);clear hltq;try refine zU ?_)|(refine LS.nilQ ?_;try with_reducible intro nq hnq;try refine zU ?_))
    refine RS.call rfl ((impl_IsVector p s (fun x => l (8 * i + x)) _ _ (fun x hx => hl _ (by omega))).mono ?_)
    rintro r H' n2 hn2 ⟨rfl, rfl⟩
    (repeat first|refine zG ?_|(refine LS.nilO ?_;intro nq hnq hltq;try refine zU ?_)|(refine MS.new ?_;intro bq hbq hbqf;try refine zU ?_)|(refine MS.nil ?_;intro nq hnq hltq;have hlq:=hltq _ _ (Hp.get_eq _ _ _);clear hltq;try refine zU ?_)|(refine LS.nilQ ?_;try with_reducible intro nq hnq;try refine zU ?_))
    refine RS.sp (t := 23) rfl (fun h2 => ?_) (fun h2 => ?_) <;> (try simp only [tb_eq, tb_eqF, decide_eq_true_eq, decide_eq_false_iff_not, beq_iff_eq, bne_iff_ne, ne_eq, Decidable.not_not, beq_eq_false_iff_ne, bne_eq_false_iff_eq, Bool.not_eq_true', Bool.not_eq_false', Bool.not_eq_eq_eq_not, Bool.not_true, Bool.not_false] at h2)
    · (repeat first|refine zG ?_|(refine LS.nilO ?_;intro nq hnq hltq;try refine zU ?_)|(refine MS.new ?_;intro bq hbq hbqf;try refine zU ?_)|(refine MS.nil ?_;intro nq hnq hltq;have hlq:=hltq _ _ (Hp.get_eq _ _ _);clear hltq;try refine zU ?_)|(refine LS.nilQ ?_;try with_reducible intro nq hnq;try refine zU ?_))
      exact ⟨_, H, rfl, by exact zD, by rw [tb_false (fun h => h2 ⟨h.1, (h.2 i (by omega)).1⟩)], rfl⟩
    · (repeat first|refine zG ?_|(refine LS.nilO ?_;intro nq hnq hltq;try refine zU ?_)|(refine MS.new ?_;intro bq hbq hbqf;try refine zU ?_)|(refine MS.nil ?_;intro nq hnq hltq;have hlq:=hltq _ _ (Hp.get_eq _ _ _);clear hltq;try refine zU ?_)|(refine LS.nilQ ?_;try with_reducible intro nq hnq;try refine zU ?_))
      refine RS.sp (t := 27) rfl (fun h3 => ?_) (fun h3 => ?_) <;> (try simp only [tb_eq, tb_eqF, decide_eq_true_eq, decide_eq_false_iff_not, beq_iff_eq, bne_iff_ne, ne_eq, Decidable.not_not, beq_eq_false_iff_ne, bne_eq_false_iff_eq, Bool.not_eq_true', Bool.not_eq_false', Bool.not_eq_eq_eq_not, Bool.not_true, Bool.not_false] at h3)
      · (repeat first|refine zG ?_|(refine LS.nilO ?_;intro nq hnq hltq;try refine zU ?_)|(refine MS.new ?_;intro bq hbq hbqf;try refine zU ?_)|(refine MS.nil ?_;intro nq hnq hltq;have hlq:=hltq _ _ (Hp.get_eq _ _ _);clear hltq;try refine zU ?_)|(refine LS.nilQ ?_;try with_reducible intro nq hnq;try refine zU ?_))
        refine zI ?_ ?_<;>intro h4
        · (repeat first|refine zG ?_|(refine LS.nilO ?_;intro nq hnq hltq;try refine zU ?_)|(refine MS.new ?_;intro bq hbq hbqf;try refine zU ?_)|(refine MS.nil ?_;intro nq hnq hltq;have hlq:=hltq _ _ (Hp.get_eq _ _ _);clear hltq;try refine zU ?_)|(refine LS.nilQ ?_;try with_reducible intro nq hnq;try refine zU ?_))
          exact ⟨_, H, rfl, by exact zD, by rw [tb_false (fun h => h4 (fun x hx => (h.2 i (by omega)).2 (by omega) x hx))], rfl⟩
        · (repeat first|refine zG ?_|(refine LS.nilO ?_;intro nq hnq hltq;try refine zU ?_)|(refine MS.new ?_;intro bq hbq hbqf;try refine zU ?_)|(refine MS.nil ?_;intro nq hnq hltq;have hlq:=hltq _ _ (Hp.get_eq _ _ _);clear hltq;try refine zU ?_)|(refine LS.nilQ ?_;try with_reducible intro nq hnq;try refine zU ?_))
          refine ⟨by omega, by (repeat first | exact trivial | refine And.intro rfl ?_), by exact zD, fun _ => h2.1, fun j hj => ?_⟩
          by_cases e : j < i
          · exact hJ.2 j e
          · have : j = i := by omega
            subst this; exact ⟨h2.2, fun _ => h4⟩
      · (repeat first|refine zG ?_|(refine LS.nilO ?_;intro nq hnq hltq;try refine zU ?_)|(refine MS.new ?_;intro bq hbq hbqf;try refine zU ?_)|(refine MS.nil ?_;intro nq hnq hltq;have hlq:=hltq _ _ (Hp.get_eq _ _ _);clear hltq;try refine zU ?_)|(refine LS.nilQ ?_;try with_reducible intro nq hnq;try refine zU ?_))
        refine ⟨by omega, by (repeat first | exact trivial | refine And.intro rfl ?_), by exact zD, fun _ => h2.1, fun j hj => ?_⟩
        by_cases e : j < i
        · exact hJ.2 j e
        · have : j = i := by omega
          subst this; exact ⟨h2.2, fun h => by omega⟩
  · (repeat first|refine zG ?_|(refine LS.nilO ?_;intro nq hnq hltq;try refine zU ?_)|(refine MS.new ?_;intro bq hbq hbqf;try refine zU ?_)|(refine MS.nil ?_;intro nq hnq hltq;have hlq:=hltq _ _ (Hp.get_eq _ _ _);clear hltq;try refine zU ?_)|(refine LS.nilQ ?_;try with_reducible intro nq hnq;try refine zU ?_))
    exact ⟨_, H, rfl, by exact zD, by rw [tb_true (show sz p s ∧ isLin p n' s l from ⟨hJ.1 (by omega), fun j hj => hJ.2 j (by omega)⟩)], rfl⟩
/-- spec.l01Sizes -/
def ir116 : Cd := (.seq (.reg [⟨some 4,none,.mov (.c (.bool false))⟩]) (.seq (.reg [⟨some 5,none,.mov (.t 0)⟩,⟨some 6,none,.call 131 [(.t 5)]⟩,⟨some 7,none,.mov (.t 6)⟩,⟨some 8,(some (7,true)),.mov (.t 1)⟩,⟨some 9,(some (7,true)),.call 132 [(.t 8),(.c (.int .i64 1)),(.c (.int .i64 8))]⟩,⟨some 10,none,.pick (.t 7) (.t 9) (.c (.bool false))⟩,⟨some 4,none,.mov (.t 10)⟩]) .ret))
set_option maxRecDepth 100000 in
theorem tr116 : trFn Tryz.prog Tryz.f116 = some (11, ir116, [.tmp 4]) := by kernel_rfl
theorem spec_l01Sizes (p n' : Int) (H : Hp) (n : Nat) :
    FnS Tryz.prog 116 [i64 p, i64 n'] H n (fun v H' _ => v = bl (tb (sz p n')) ∧ H' = H) := by
  refine FnS.of_body Tryz.func116 tr116 (by simp) (fun hf => ?_)
  dsimp only [argEnv]
  unfold ir116
  (repeat first|refine zG ?_|(refine LS.nilO ?_;intro nq hnq hltq;try refine zU ?_)|(refine MS.new ?_;intro bq hbq hbqf;try refine zU ?_)|(refine MS.nil ?_;intro nq hnq hltq;have hlq:=hltq _ _ (Hp.get_eq _ _ _);clear hltq;try refine zU ?_)|(refine LS.nilQ ?_;try with_reducible intro nq hnq;try refine zU ?_))
  refine RS.call rfl ((spec_l01Prime _ _ _).mono ?_)
  rintro r H' n2 hn2 ⟨rfl, rfl⟩
  (repeat first|refine zG ?_|(refine LS.nilO ?_;intro nq hnq hltq;try refine zU ?_)|(refine MS.new ?_;intro bq hbq hbqf;try refine zU ?_)|(refine MS.nil ?_;intro nq hnq hltq;have hlq:=hltq _ _ (Hp.get_eq _ _ _);clear hltq;try refine zU ?_)|(refine LS.nilQ ?_;try with_reducible intro nq hnq;try refine zU ?_))
  refine RS.sp (t := 7) rfl (fun h1 => ?_) (fun h1 => ?_) <;> (try simp only [tb_eq, tb_eqF, decide_eq_true_eq, decide_eq_false_iff_not, beq_iff_eq, bne_iff_ne, ne_eq, Decidable.not_not, beq_eq_false_iff_ne, bne_eq_false_iff_eq, Bool.not_eq_true', Bool.not_eq_false', Bool.not_eq_eq_eq_not, Bool.not_true, Bool.not_false] at h1)
  · (repeat first|refine zG ?_|(refine LS.nilO ?_;intro nq hnq hltq;try refine zU ?_)|(refine MS.new ?_;intro bq hbq hbqf;try refine zU ?_)|(refine MS.nil ?_;intro nq hnq hltq;have hlq:=hltq _ _ (Hp.get_eq _ _ _);clear hltq;try refine zU ?_)|(refine LS.nilQ ?_;try with_reducible intro nq hnq;try refine zU ?_))
    refine RS.call rfl ((spec_l01In _ _ _ _ _).mono ?_)
    rintro r H' n3 hn3 ⟨rfl, rfl⟩
    (repeat first|refine zG ?_|(refine LS.nilO ?_;intro nq hnq hltq;try refine zU ?_)|(refine MS.new ?_;intro bq hbq hbqf;try refine zU ?_)|(refine MS.nil ?_;intro nq hnq hltq;have hlq:=hltq _ _ (Hp.get_eq _ _ _);clear hltq;try refine zU ?_)|(refine LS.nilQ ?_;try with_reducible intro nq hnq;try refine zU ?_))
    exact ⟨_, _, rfl, by exact zD, by rw [tb_iff (R := 1 ≤ n' ∧ n' ≤ 8) ⟨fun h => h.2, fun h => ⟨h1, h⟩⟩, tb_dec], rfl⟩
  · (repeat first|refine zG ?_|(refine LS.nilO ?_;intro nq hnq hltq;try refine zU ?_)|(refine MS.new ?_;intro bq hbq hbqf;try refine zU ?_)|(refine MS.nil ?_;intro nq hnq hltq;have hlq:=hltq _ _ (Hp.get_eq _ _ _);clear hltq;try refine zU ?_)|(refine LS.nilQ ?_;try with_reducible intro nq hnq;try refine zU ?_))
    exact ⟨_, _, rfl, by exact zD, by rw [tb_false (fun h => by simp [h.1] at h1)], rfl⟩
/-- (*impl.Coalgebra).fault -/
def ir127 : Cd := (.seq (.reg [⟨some 2,none,.mov (.c .nils)⟩]) (.seq (.reg [⟨some 9,none,.mov (.t 0)⟩,⟨some 10,none,.ck (.t 9)⟩,⟨some 11,none,.fa 1 (.t 10)⟩,⟨some 12,none,.ld none (.t 11)⟩,⟨some 3,none,.mov (.t 12)⟩]) (.seq (.seq (.reg [⟨some 13,none,.mov (.t 3)⟩,⟨some 14,none,.mov (.t 3)⟩,⟨some 15,none,.bin .mul (.t 13) (.t 14)⟩,⟨some 16,none,.mov (.t 3)⟩,⟨some 17,none,.bin .mul (.t 15) (.t 16)⟩,⟨some 18,none,.mov (.t 3)⟩,⟨some 19,none,.bin .mul (.t 17) (.t 18)⟩,⟨some 20,none,.mov (.c (.int .i64 0))⟩]) (.block 0 (.loop (.seq (.reg [⟨some 21,none,.bin .lss (.t 20) (.t 19)⟩]) (.seq (.cond (.t 21) .skip (.exit 0)) (.seq (.block 1 (.seq (.reg [⟨some 22,none,.mov (.t 20)⟩,⟨some 4,none,.mov (.t 22)⟩]) (.seq (.drw true [] [⟨some 23,none,.mov (.t 4)⟩,⟨some 24,none,.mov (.t 3)⟩,⟨some 25,none,.mov (.t 3)⟩,⟨some 26,none,.bin .mul (.t 24) (.t 25)⟩,⟨some 27,none,.mov (.t 3)⟩,⟨some 28,none,.bin .mul (.t 26) (.t 27)⟩,⟨some 29,none,.bin .quo (.t 23) (.t 28)⟩,⟨some 30,none,.mov (.t 4)⟩,⟨some 31,none,.mov (.t 3)⟩,⟨some 32,none,.mov (.t 3)⟩,⟨some 33,none,.bin .mul (.t 31) (.t 32)⟩,⟨some 34,none,.bin .quo (.t 30) (.t 33)⟩,⟨some 35,none,.mov (.t 3)⟩,⟨some 36,none,.bin .rem (.t 34) (.t 35)⟩,⟨some 37,none,.mov (.t 4)⟩,⟨some 38,none,.mov (.t 3)⟩,⟨some 39,none,.bin .quo (.t 37) (.t 38)⟩,⟨some 40,none,.mov (.t 3)⟩,⟨some 41,none,.bin .rem (.t 39) (.t 40)⟩,⟨some 42,none,.mov (.t 4)⟩,⟨some 43,none,.mov (.t 3)⟩,⟨some 44,none,.bin .rem (.t 42) (.t 43)⟩,⟨some 5,none,.mov (.t 29)⟩,⟨some 6,none,.mov (.t 36)⟩,⟨some 7,none,.mov (.t 41)⟩,⟨some 8,none,.mov (.t 44)⟩]) (.seq (.reg [⟨some 45,none,.mov (.t 0)⟩,⟨some 46,none,.mov (.t 5)⟩,⟨some 47,none,.mov (.t 6)⟩,⟨some 48,none,.mov (.t 7)⟩,⟨some 49,none,.mov (.t 8)⟩,⟨some 50,none,.call 140 [(.t 45),(.t 46),(.t 47),(.t 48),(.t 49)]⟩]) (.cond (.t 50) (.seq (.reg [⟨some 51,none,.mov (.t 5)⟩,⟨some 52,none,.mov (.t 6)⟩,⟨some 53,none,.mov (.t 7)⟩,⟨some 54,none,.mov (.t 8)⟩,⟨some 55,none,.bsl 2 4 1 [(1,(.int .i64 0))] [(0,1,(.t 51)),(1,1,(.t 52)),(2,1,(.t 53)),(3,1,(.t 54))]⟩,⟨some 2,none,.mov (.t 55)⟩]) .ret) .skip))))) (.reg [⟨some 56,none,.bin .add (.t 20) (.c (.int .i64 1))⟩,⟨some 20,none,.mov (.t 56)⟩]))))))) (.seq (.reg [⟨some 2,none,.mov (.c .nils)⟩]) .ret))))
set_option maxRecDepth 100000 in
theorem tr127 : trFn Tryz.prog Tryz.f127 = some (57, ir127, [.tmp 2]) := by kernel_rfl
theorem Coalgebra_fault (p : Int) (a : Nat) (c : Nat → Int) (b : Nat) (K : Blk) (H : Hp) (n : Nat) (hp : 2 ≤ p ∧ p ≤ 31) (ha1 : 1 ≤ a) (ha : a ≤ 8) (hb : H.get b = some K) (hsz : K.size = 522)
    (h0 : K.c 0 = .int .i64 p) (h1 : K.c 1 = .int .i64 a) (hK : ∀ q, q < 512 → K.c (10 + q) = .int .u8 (c q)) (hc : isBy 512 c) :
    FnS Tryz.prog 127 [ptr b 0] H n (fun r H' _ => ((r = .s .nils ∧ coassoc p a c) ∨ ((∃ b o l c, r = .s (.slc b o l c)) ∧ ¬coassoc p a c)) ∧ H' = H) := by
  refine FnS.of_body Tryz.func127 tr127 (by simp) (fun hf => ?_)
  dsimp only [argEnv]
  unfold ir127
  have hbn := getlt hf hb
  obtain ⟨p2, p3, p4⟩ := pow4 a ha1 ha
  (repeat first|refine zG ?_|(refine LS.nilO ?_;intro nq hnq hltq;try refine zU ?_)|(refine MS.new ?_;intro bq hbq hbqf;try refine zU ?_)|(refine MS.nil ?_;intro nq hnq hltq;have hlq:=hltq _ _ (Hp.get_eq _ _ _);clear hltq;try refine zU ?_)|(refine LS.nilQ ?_;try with_reducible intro nq hnq;try refine zU ?_))
  refine CS.iter (a * a * a * a) (fun t => [(20, i64 t), (19, i64 ((a : Int) * a * a * a)), (3, i64 a), (0, ptr b 0)]) (fun _ => H)
    (fun t => ∀ t' : Nat, t' < t → cosum1 p c (t' / (a * a * a)) (t' / (a * a) % a) (t' / a % a) (t' % a) a = cosum2 p c (t' / (a * a * a)) (t' / (a * a) % a) (t' / a % a) (t' % a) a) (by (repeat first | exact trivial | refine And.intro rfl ?_)) (Drops.refl _ _) (fun _ h => by omega) ?_
  intro t n1 ht hn hJ
  have ht' : (t : Int) ≤ (a : Int) * a * a * a := by have := Int.ofNat_le.2 ht; simpa only [Int.natCast_mul] using this
  have q1 : 0 ≤ (t : Int) / ((a : Int) * a) ∧ (t : Int) / ((a : Int) * a) ≤ t := ⟨Int.ediv_nonneg (by omega) (by omega), Int.ediv_le_self _ (by omega)⟩
  have q2 : 0 ≤ (t : Int) / (a : Int) ∧ (t : Int) / (a : Int) ≤ t := ⟨Int.ediv_nonneg (by omega) (by omega), Int.ediv_le_self _ (by omega)⟩
  (repeat first|refine zG ?_|(refine LS.nilO ?_;intro nq hnq hltq;try refine zU ?_)|(refine MS.new ?_;intro bq hbq hbqf;try refine zU ?_)|(refine MS.nil ?_;intro nq hnq hltq;have hlq:=hltq _ _ (Hp.get_eq _ _ _);clear hltq;try refine zU ?_)|(refine LS.nilQ ?_;try with_reducible intro nq hnq;try refine zU ?_))
  refine zI ?_ ?_<;>intro h2
  · have htl : t < a * a * a * a := by have h3 : (t : Int) < ((a * a * a * a : Nat) : Int) := by (simp only [Int.natCast_mul]; exact h2)
                                       exact Int.ofNat_lt.1 h3
    obtain ⟨i1, i2, i3, i4⟩ := idx4 a t ha1 htl
    (repeat first|refine zG ?_|(refine LS.nilO ?_;intro nq hnq hltq;try refine zU ?_)|(refine MS.new ?_;intro bq hbq hbqf;try refine zU ?_)|(refine MS.nil ?_;intro nq hnq hltq;have hlq:=hltq _ _ (Hp.get_eq _ _ _);clear hltq;try refine zU ?_)|(refine LS.nilQ ?_;try with_reducible intro nq hnq;try refine zU ?_))
    refine RS.call rfl ((Coalgebra_isFault p a (t / (a * a * a)) (t / (a * a) % a) (t / a % a) (t % a) _ _ _ _ c b K _ _ hp ha ⟨i1, by push_cast; rfl⟩ ⟨i2, by push_cast; rfl⟩ ⟨i3, by push_cast; rfl⟩ ⟨i4, by push_cast; rfl⟩ (by exact zH) hsz h0 h1 hK hc).mono ?_)
    rintro r H n2 hn2 ⟨rfl, rfl⟩
    (repeat first|refine zG ?_|(refine LS.nilO ?_;intro nq hnq hltq;try refine zU ?_)|(refine MS.new ?_;intro bq hbq hbqf;try refine zU ?_)|(refine MS.nil ?_;intro nq hnq hltq;have hlq:=hltq _ _ (Hp.get_eq _ _ _);clear hltq;try refine zU ?_)|(refine LS.nilQ ?_;try with_reducible intro nq hnq;try refine zU ?_))
    refine zI ?_ ?_<;>intro h3
    · (repeat first|refine zG ?_|(refine LS.nilO ?_;intro nq hnq hltq;try refine zU ?_)|(refine MS.new ?_;intro bq hbq hbqf;try refine zU ?_)|(refine MS.nil ?_;intro nq hnq hltq;have hlq:=hltq _ _ (Hp.get_eq _ _ _);clear hltq;try refine zU ?_)|(refine LS.nilQ ?_;try with_reducible intro nq hnq;try refine zU ?_))
      exact ⟨_, H, rfl, by exact zD, .inr ⟨⟨_, _, _, _, rfl⟩, fun h => h3 (h t htl)⟩, rfl⟩
    · (repeat first|refine zG ?_|(refine LS.nilO ?_;intro nq hnq hltq;try refine zU ?_)|(refine MS.new ?_;intro bq hbq hbqf;try refine zU ?_)|(refine MS.nil ?_;intro nq hnq hltq;have hlq:=hltq _ _ (Hp.get_eq _ _ _);clear hltq;try refine zU ?_)|(refine LS.nilQ ?_;try with_reducible intro nq hnq;try refine zU ?_))
      refine ⟨by omega, by (repeat first | exact trivial | refine And.intro rfl ?_), Drops.refl _ _, fun t' ht' => ?_⟩
      by_cases e : t' = t
      · subst e; exact h3
      · exact hJ t' (by omega)
  · have : t = a * a * a * a := by
      have h3 : ¬(t : Int) < ((a * a * a * a : Nat) : Int) := by (simp only [Int.natCast_mul]; exact h2)
      have : ¬ t < a * a * a * a := fun h => h3 (Int.ofNat_lt.2 h)
      omega
    subst this
    (repeat first|refine zG ?_|(refine LS.nilO ?_;intro nq hnq hltq;try refine zU ?_)|(refine MS.new ?_;intro bq hbq hbqf;try refine zU ?_)|(refine MS.nil ?_;intro nq hnq hltq;have hlq:=hltq _ _ (Hp.get_eq _ _ _);clear hltq;try refine zU ?_)|(refine LS.nilQ ?_;try with_reducible intro nq hnq;try refine zU ?_))
    exact ⟨_, H, rfl, by exact zD, .inl ⟨rfl, fun t' ht' => hJ t' ht'⟩, rfl⟩
/-- (*impl.Hopf).coproduct -/
def ir128 : Cd := (.seq (.reg [⟨some 3,none,.box 27 (.t 1)⟩,⟨some 4,none,.new 29 [(64,(.int .u8 0))]⟩]) (.seq (.reg [⟨some 10,none,.mov (.t 0)⟩,⟨some 11,none,.call 49 [(.t 10)]⟩,⟨some 12,none,.build 64 [(64,(.int .u8 0))] []⟩,⟨some 5,none,.new 85 [(2,(.int .i64 0))]⟩,⟨some 6,none,.new 29 [(64,(.int .u8 0))]⟩,⟨none,none,.st 2 (.t 5) (.t 11)⟩,⟨none,none,.st 64 (.t 6) (.t 12)⟩]) (.seq (.seq (.reg [⟨some 13,none,.ld (some 8) (.t 3)⟩,⟨some 14,none,.mov (.c (.int .i64 0))⟩]) (.block 0 (.loop (.seq (.reg [⟨some 15,none,.bin .lss (.t 14) (.c (.int .i64 8))⟩]) (.seq (.cond (.t 15) .skip (.exit 0)) (.seq (.block 1 (.seq (.reg [⟨some 16,none,.mov (.t 14)⟩,⟨some 17,none,.ix 8 1 none (.t 13) (.t 14)⟩,⟨some 7,none,.mov (.t 16)⟩,⟨some 8,none,.mov (.t 17)⟩]) (.seq (.reg [⟨some 9,none,.mov (.c (.int .i64 0))⟩]) (.block 2 (.loop (.seq (.seq (.reg [⟨some 18,none,.mov (.t 8)⟩,⟨some 19,none,.bin .neq (.t 18) (.c (.int .u8 0))⟩,⟨some 20,none,.mov (.t 19)⟩,⟨some 21,(some (20,true)),.mov (.t 9)⟩,⟨some 22,(some (20,true)),.fa 1 (.t 5)⟩,⟨some 23,(some (20,true)),.ld none (.t 22)⟩,⟨some 24,(some (20,true)),.bin .lss (.t 21) (.t 23)⟩,⟨some 25,none,.pick (.t 20) (.t 24) (.c (.bool false))⟩]) (.cond (.t 25) .skip (.exit 2))) (.seq (.block 3 (.drw true [13] [⟨some 28,none,.ld (some 2) (.t 5)⟩,⟨some 29,none,.mov (.t 9)⟩,⟨some 30,none,.ia 8 8 (.t 6) (.t 29)⟩,⟨some 31,none,.mov (.t 8)⟩,⟨some 32,none,.cv .i64 (.t 31)⟩,⟨some 33,none,.mov (.t 0)⟩,⟨some 34,none,.mov (.t 7)⟩,⟨some 35,none,.mov (.t 9)⟩,⟨some 36,none,.ck (.t 33)⟩,⟨some 37,none,.fa 530 (.t 36)⟩,⟨some 38,none,.ia 8 64 (.t 37) (.t 34)⟩,⟨some 39,none,.ia 8 8 (.t 38) (.t 35)⟩,⟨some 40,none,.ld (some 8) (.t 39)⟩,⟨some 41,none,.call 50 [(.t 28),(.t 30),(.t 32),(.t 40)]⟩])) (.reg [⟨some 26,none,.mov (.t 9)⟩,⟨some 27,none,.bin .add (.t 26) (.c (.int .i64 1))⟩,⟨some 9,none,.mov (.t 27)⟩])))))))) (.reg [⟨some 42,none,.bin .add (.t 14) (.c (.int .i64 1))⟩,⟨some 14,none,.mov (.t 42)⟩]))))))) (.seq (.reg [⟨some 43,none,.ld (some 64) (.t 6)⟩,⟨none,none,.st 64 (.t 4) (.t 43)⟩]) .ret))))
set_option maxRecDepth 100000 in
theorem tr128 : trFn Tryz.prog Tryz.f128 = some (44, ir128, [.cell (some 64) 4]) := by kernel_rfl
theorem Hopf_coproduct (h : HT) (a : Nat) (v : Nat → Int) (b : Nat) (K : Blk) (H : Hp) (n : Nat) (hS : HS h a) (hb : H.get b = some K) (hsz : K.size = 1106) (hK : h.At K.c) (hB : h.By) (hv : isBy 8 v) :
    FnS Tryz.prog 128 [ptr b 0, .arr 8 (bys v)] H n (fun r H' _ => r = .arr 64 (bys (cps h.p h.c v 8)) ∧ H' = H) := by
  have hp := hS.hp
  have ha := hS.ha
  have hk1 := hK.n
  rw [hS.hn] at hk1
  have hk5 := hK.c
  refine FnS.of_body Tryz.func128 tr128 (by simp) (fun hf => ?_)
  dsimp only [argEnv]
  unfold ir128
  have hbn := getlt hf hb
  (repeat first|refine zG ?_|(refine LS.nilO ?_;intro nq hnq hltq;try refine zU ?_)|(refine MS.new ?_;intro bq hbq hbqf;try refine zU ?_)|(refine MS.nil ?_;intro nq hnq hltq;have hlq:=hltq _ _ (Hp.get_eq _ _ _);clear hltq;try refine zU ?_)|(refine LS.nilQ ?_;try with_reducible intro nq hnq;try refine zU ?_))
  refine RS.call rfl ((Hopf_field h.p a b K _ _ (by exact zH) hsz hK.p hk1 (by omega)).mono ?_)
  rintro r H n2 hn2 ⟨rfl, rfl⟩
  (repeat first|refine zG ?_|(refine LS.nilO ?_;intro nq hnq hltq;try refine zU ?_)|(refine MS.new ?_;intro bq hbq hbqf;try refine zU ?_)|(refine MS.nil ?_;intro nq hnq hltq;have hlq:=hltq _ _ (Hp.get_eq _ _ _);clear hltq;try refine zU ?_)|(refine LS.nilQ ?_;try with_reducible intro nq hnq;try refine zU ?_))
  refine CS.iter 8 (fun i => [(14, i64 i), (13, .arr 8 (bys v)), (0, ptr b 0), (4, ptr (n + 1) 0), (5, ptr n2 0), (6, ptr (n2 + 1) 0)])
    (fun i => (n2 + 1, ⟨64, bys (cps h.p h.c v i), 29⟩) :: (n2, ⟨2, fldC h.p a, 85⟩) :: (n + 1, ⟨64, bys (fun _ => 0), 29⟩) :: H) (fun _ => True) (by (repeat first | exact trivial | refine And.intro rfl ?_))
    (Drops.keepc rfl rfl (fun _ _ => by rw [cps_zero]; rfl) (Drops.keepc rfl rfl (fun _ _ => rfl) (Drops.keepc rfl rfl (fun _ _ => rfl) (by exact zD)))) trivial ?_
  intro i n3 hi hn _
  (repeat first|refine zG ?_|(refine LS.nilO ?_;intro nq hnq hltq;try refine zU ?_)|(refine MS.new ?_;intro bq hbq hbqf;try refine zU ?_)|(refine MS.nil ?_;intro nq hnq hltq;have hlq:=hltq _ _ (Hp.get_eq _ _ _);clear hltq;try refine zU ?_)|(refine LS.nilQ ?_;try with_reducible intro nq hnq;try refine zU ?_))
  refine zI ?_ ?_<;>intro h2
  · have hvi := hv i (by omega)
    (repeat first|refine zG ?_|(refine LS.nilO ?_;intro nq hnq hltq;try refine zU ?_)|(refine MS.new ?_;intro bq hbq hbqf;try refine zU ?_)|(refine MS.nil ?_;intro nq hnq hltq;have hlq:=hltq _ _ (Hp.get_eq _ _ _);clear hltq;try refine zU ?_)|(refine LS.nilQ ?_;try with_reducible intro nq hnq;try refine zU ?_))
    refine CS.iter a (fun j => [(9, i64 j), (7, i64 i), (8, u8 (v i)), (14, i64 i), (13, .arr 8 (bys v)), (0, ptr b 0), (4, ptr (n + 1) 0), (5, ptr n2 0), (6, ptr (n2 + 1) 0)])
      (fun j => (n2 + 1, ⟨64, bys (rowsTo (cps h.p h.c v i) (cps h.p h.c v (i + 1)) j), 29⟩) :: (n2, ⟨2, fldC h.p a, 85⟩) :: (n + 1, ⟨64, bys (fun _ => 0), 29⟩) :: H) (fun _ => True) (by (repeat first | exact trivial | refine And.intro rfl ?_))
      (Drops.keepc rfl rfl (fun _ _ => by rw [rowsTo_zero]) (Drops.refl _ _)) trivial ?_
    intro j n4 hj hn4 _
    (repeat first|refine zG ?_|(refine LS.nilO ?_;intro nq hnq hltq;try refine zU ?_)|(refine MS.new ?_;intro bq hbq hbqf;try refine zU ?_)|(refine MS.nil ?_;intro nq hnq hltq;have hlq:=hltq _ _ (Hp.get_eq _ _ _);clear hltq;try refine zU ?_)|(refine LS.nilQ ?_;try with_reducible intro nq hnq;try refine zU ?_))
    refine RS.sp (t := 20) rfl (fun h3 => ?_) (fun h3 => ?_) <;> (try simp only [tb_eq, tb_eqF, decide_eq_true_eq, decide_eq_false_iff_not, beq_iff_eq, bne_iff_ne, ne_eq, Decidable.not_not, beq_eq_false_iff_ne, bne_eq_false_iff_eq, Bool.not_eq_true', Bool.not_eq_false', Bool.not_eq_eq_eq_not, Bool.not_true, Bool.not_false] at h3)
    · (repeat first|refine zG ?_|(refine LS.nilO ?_;intro nq hnq hltq;try refine zU ?_)|(refine MS.new ?_;intro bq hbq hbqf;try refine zU ?_)|(refine MS.nil ?_;intro nq hnq hltq;have hlq:=hltq _ _ (Hp.get_eq _ _ _);clear hltq;try refine zU ?_)|(refine LS.nilQ ?_;try with_reducible intro nq hnq;try refine zU ?_))
      refine zI ?_ ?_<;>intro h4
      · (repeat first|refine zG ?_|(refine LS.nilO ?_;intro nq hnq hltq;try refine zU ?_)|(refine MS.new ?_;intro bq hbq hbqf;try refine zU ?_)|(refine MS.nil ?_;intro nq hnq hltq;have hlq:=hltq _ _ (Hp.get_eq _ _ _);clear hltq;try refine zU ?_)|(refine LS.nilQ ?_;try with_reducible intro nq hnq;try refine zU ?_))
        refine RS.call rfl ((field_plus h.p a (v i) (fun y => cps h.p h.c v i (8 * j + y)) (fun y => h.c (64 * i + 8 * j + y)) (n2 + 1) (8 * j) ⟨64, bys (rowsTo (cps h.p h.c v i) (cps h.p h.c v (i + 1)) j), 29⟩ _ _ hp (by exact zH) (show 8 * j + 8 ≤ 64 by omega)
          (fun y hy => by simp only [bys, rowsTo]; rw [if_neg (by omega)]) (fun y hy => cps_res hp.1 _ _ _ 64 _ (by omega)) (fun x hx => hB.c _ (by omega)) (by omega)).mono ?_)
        rintro r H n5 hn5 ⟨rfl, rfl⟩
        simp (disch := omega) only [Hp.set_eq, Hp.set_ne]
        (repeat first|refine zG ?_|(refine LS.nilO ?_;intro nq hnq hltq;try refine zU ?_)|(refine MS.new ?_;intro bq hbq hbqf;try refine zU ?_)|(refine MS.nil ?_;intro nq hnq hltq;have hlq:=hltq _ _ (Hp.get_eq _ _ _);clear hltq;try refine zU ?_)|(refine LS.nilQ ?_;try with_reducible intro nq hnq;try refine zU ?_))
        exact ⟨by omega, by (repeat first | exact trivial | refine And.intro rfl ?_), Drops.keepc rfl rfl (fun q hq => rowsTo_step (fun y hy => cps_row _ _ _ _ _ _) q) (Drops.refl _ _), trivial⟩
      · have : j = a := by omega
        subst this
        (repeat first|refine zG ?_|(refine LS.nilO ?_;intro nq hnq hltq;try refine zU ?_)|(refine MS.new ?_;intro bq hbq hbqf;try refine zU ?_)|(refine MS.nil ?_;intro nq hnq hltq;have hlq:=hltq _ _ (Hp.get_eq _ _ _);clear hltq;try refine zU ?_)|(refine LS.nilQ ?_;try with_reducible intro nq hnq;try refine zU ?_))
        exact ⟨by omega, by (repeat first | exact trivial | refine And.intro rfl ?_), Drops.keepc rfl rfl (fun q hq => by simp only [bys]; rw [rowsTo_all (fun q h1 h2 => cps_out hS.cm (by omega) h1 h2) hq]) (Drops.refl _ _), trivial⟩
    · (repeat first|refine zG ?_|(refine LS.nilO ?_;intro nq hnq hltq;try refine zU ?_)|(refine MS.new ?_;intro bq hbq hbqf;try refine zU ?_)|(refine MS.nil ?_;intro nq hnq hltq;have hlq:=hltq _ _ (Hp.get_eq _ _ _);clear hltq;try refine zU ?_)|(refine LS.nilQ ?_;try with_reducible intro nq hnq;try refine zU ?_))
      exact ⟨by omega, by (repeat first | exact trivial | refine And.intro rfl ?_), Drops.keepc rfl rfl (fun q hq => by simp only [bys, rowsTo]; rw [cps_same h3]; split <;> rfl) (Drops.refl _ _), trivial⟩
  · have : i = 8 := by omega
    subst this
    (repeat first|refine zG ?_|(refine LS.nilO ?_;intro nq hnq hltq;try refine zU ?_)|(refine MS.new ?_;intro bq hbq hbqf;try refine zU ?_)|(refine MS.nil ?_;intro nq hnq hltq;have hlq:=hltq _ _ (Hp.get_eq _ _ _);clear hltq;try refine zU ?_)|(refine LS.nilQ ?_;try with_reducible intro nq hnq;try refine zU ?_))
    exact ⟨.arr 64 (bys (cps h.p h.c v 8)), H, conc_arr (fun q hq => by first | rfl | (simp only [Nat.zero_add]; done) | (simp only [Nat.zero_add]; rfl)), by exact zD, rfl, rfl⟩
/-- spec.l09One -/
def ir76 : Cd := (.seq (.reg [⟨some 1,none,.box 35 (.t 0)⟩,⟨some 2,none,.new 29 [(64,(.int .u8 0))]⟩]) (.seq (.reg [⟨some 5,none,.build 64 [(64,(.int .u8 0))] []⟩,⟨some 3,none,.new 29 [(64,(.int .u8 0))]⟩,⟨none,none,.st 64 (.t 3) (.t 5)⟩]) (.seq (.seq (.reg [⟨some 4,none,.mov (.c (.int .i64 0))⟩]) (.block 0 (.loop (.seq (.seq (.reg [⟨some 6,none,.mov (.t 4)⟩,⟨some 7,none,.fa 1 (.t 1)⟩,⟨some 8,none,.ld none (.t 7)⟩,⟨some 9,none,.bin .lss (.t 6) (.t 8)⟩]) (.cond (.t 9) .skip (.exit 0))) (.seq (.block 1 (.drw true [13] [⟨some 12,none,.mov (.t 4)⟩,⟨some 13,none,.fa 0 (.t 1)⟩,⟨some 14,none,.ld none (.t 13)⟩,⟨some 15,none,.build 8 [(8,(.int .u8 0))] []⟩,⟨some 16,none,.fa 2 (.t 1)⟩,⟨some 17,none,.ld (some 8) (.t 16)⟩,⟨some 18,none,.mov (.t 4)⟩,⟨some 19,none,.fa 2 (.t 1)⟩,⟨some 20,none,.ia 8 1 (.t 19) (.t 18)⟩,⟨some 21,none,.ld none (.t 20)⟩,⟨some 22,none,.cv .i64 (.t 21)⟩,⟨some 23,none,.call 47 [(.t 14),(.t 15),(.t 17),(.t 22)]⟩,⟨some 24,none,.ia 8 8 (.t 3) (.t 12)⟩,⟨none,none,.st 8 (.t 24) (.t 23)⟩])) (.reg [⟨some 10,none,.mov (.t 4)⟩,⟨some 11,none,.bin .add (.t 10) (.c (.int .i64 1))⟩,⟨some 4,none,.mov (.t 11)⟩])))))) (.seq (.reg [⟨some 25,none,.ld (some 64) (.t 3)⟩,⟨none,none,.st 64 (.t 2) (.t 25)⟩]) .ret))))
set_option maxRecDepth 100000 in
theorem tr76 : trFn Tryz.prog Tryz.f76 = some (26, ir76, [.cell (some 64) 2]) := by kernel_rfl
theorem spec_l09One (h : HT) (a : Nat) (K : Nat → SV) (H : Hp) (n : Nat) (hS : HS h a) (hK : h.At K) (hB : h.By) :
    FnS Tryz.prog 76 [.arr 1106 K] H n (fun r H' _ => r = .arr 64 (bys (outer h.p h.u h.u)) ∧ H' = H) := by
  have hp := hS.hp
  have ha := hS.ha
  have hk0 := hK.p
  have hk1 := hK.n
  rw [hS.hn] at hk1
  have hk5 := hK.u
  refine FnS.of_body Tryz.func76 tr76 (by simp) (fun hf => ?_)
  dsimp only [argEnv]
  unfold ir76
  (repeat first|refine zG ?_|(refine LS.nilO ?_;intro nq hnq hltq;try refine zU ?_)|(refine MS.new ?_;intro bq hbq hbqf;try refine zU ?_)|(refine MS.nil ?_;intro nq hnq hltq;have hlq:=hltq _ _ (Hp.get_eq _ _ _);clear hltq;try refine zU ?_)|(refine LS.nilQ ?_;try with_reducible intro nq hnq;try refine zU ?_))
  refine CS.iter a (fun i => [(4, i64 i), (1, ptr n 0), (2, ptr (n + 1) 0), (3, ptr (n + 2) 0)])
    (fun i => (n + 2, ⟨64, bys (rowsTo (fun _ => 0) (outer h.p h.u h.u) i), 29⟩) :: (n + 1, ⟨64, bys (fun _ => 0), 29⟩) :: (n, ⟨1106, K, 35⟩) :: H) (fun _ => True) (by (repeat first | exact trivial | refine And.intro rfl ?_))
    (Drops.keepc rfl rfl (fun _ _ => by rw [rowsTo_zero]; rfl) (Drops.keepc rfl rfl (fun _ _ => rfl) (Drops.refl _ _))) trivial ?_
  intro i n1 hi hn _
  (repeat first|refine zG ?_|(refine LS.nilO ?_;intro nq hnq hltq;try refine zU ?_)|(refine MS.new ?_;intro bq hbq hbqf;try refine zU ?_)|(refine MS.nil ?_;intro nq hnq hltq;have hlq:=hltq _ _ (Hp.get_eq _ _ _);clear hltq;try refine zU ?_)|(refine LS.nilQ ?_;try with_reducible intro nq hnq;try refine zU ?_))
  refine zI ?_ ?_<;>intro h1
  · have hvi := hB.u i (by omega)
    (repeat first|refine zG ?_|(refine LS.nilO ?_;intro nq hnq hltq;try refine zU ?_)|(refine MS.new ?_;intro bq hbq hbqf;try refine zU ?_)|(refine MS.nil ?_;intro nq hnq hltq;have hlq:=hltq _ _ (Hp.get_eq _ _ _);clear hltq;try refine zU ?_)|(refine LS.nilQ ?_;try with_reducible intro nq hnq;try refine zU ?_))
    refine LS.callQ (.arr 8 (bys (pl h.p (fun _ => 0) (h.u i) h.u))) rfl (fun n' hn' => spec_l01Add h.p (h.u i) (fun _ => 0) h.u _ _ hp ((isRes_zero hp.1 8).by hp.2) hB.u (by omega)) ?_
    (repeat first|refine zG ?_|(refine LS.nilO ?_;intro nq hnq hltq;try refine zU ?_)|(refine MS.new ?_;intro bq hbq hbqf;try refine zU ?_)|(refine MS.nil ?_;intro nq hnq hltq;have hlq:=hltq _ _ (Hp.get_eq _ _ _);clear hltq;try refine zU ?_)|(refine LS.nilQ ?_;try with_reducible intro nq hnq;try refine zU ?_))
    exact ⟨by omega, by (repeat first | exact trivial | refine And.intro rfl ?_), Drops.keepc rfl rfl (fun q hq => rowsTo_step (fun y hy => outer_row _ _ _ _ _ hy) q) (Drops.refl _ _), trivial⟩
  · have : i = a := by omega
    subst this
    (repeat first|refine zG ?_|(refine LS.nilO ?_;intro nq hnq hltq;try refine zU ?_)|(refine MS.new ?_;intro bq hbq hbqf;try refine zU ?_)|(refine MS.nil ?_;intro nq hnq hltq;have hlq:=hltq _ _ (Hp.get_eq _ _ _);clear hltq;try refine zU ?_)|(refine LS.nilQ ?_;try with_reducible intro nq hnq;try refine zU ?_))
    refine ⟨.arr 64 (bys (outer h.p h.u h.u)), H, conc_arr (fun q hq => ?_), by exact zD, rfl, rfl⟩
    simp only [Nat.zero_add, bys]
    rw [rowsTo_all (n := i) (N := 64) (fun q h1 h2 => ?_) hq]
    unfold outer
    rw [hS.um (q / 8) (by omega) (by omega), Int.zero_mul]
    rfl
/-- (*impl.Hopf).firstPart -/
def ir61 : Cd := (.seq (.reg [⟨some 4,none,.new 33 [(512,(.int .u8 0))]⟩]) (.seq (.reg [⟨some 11,none,.mov (.t 0)⟩,⟨some 12,none,.call 49 [(.t 11)]⟩,⟨some 13,none,.build 512 [(512,(.int .u8 0))] []⟩,⟨some 5,none,.new 85 [(2,(.int .i64 0))]⟩,⟨some 6,none,.new 33 [(512,(.int .u8 0))]⟩,⟨none,none,.st 2 (.t 5) (.t 12)⟩,⟨none,none,.st 512 (.t 6) (.t 13)⟩]) (.seq (.seq (.reg [⟨some 14,none,.fa 1 (.t 5)⟩,⟨some 15,none,.ld none (.t 14)⟩,⟨some 16,none,.mov (.c (.int .i64 0))⟩]) (.block 0 (.loop (.seq (.reg [⟨some 17,none,.bin .lss (.t 16) (.t 15)⟩]) (.seq (.cond (.t 17) .skip (.exit 0)) (.seq (.block 1 (.seq (.reg [⟨some 18,none,.mov (.t 16)⟩,⟨some 7,none,.mov (.t 18)⟩]) (.seq (.reg [⟨some 19,none,.fa 1 (.t 5)⟩,⟨some 20,none,.ld none (.t 19)⟩,⟨some 21,none,.mov (.c (.int .i64 0))⟩]) (.block 2 (.loop (.seq (.reg [⟨some 22,none,.bin .lss (.t 21) (.t 20)⟩]) (.seq (.cond (.t 22) .skip (.exit 2)) (.seq (.block 3 (.seq (.reg [⟨some 23,none,.mov (.t 21)⟩,⟨some 8,none,.mov (.t 23)⟩]) (.seq (.reg [⟨some 24,none,.mov (.t 0)⟩,⟨some 25,none,.mov (.t 7)⟩,⟨some 26,none,.mov (.t 8)⟩,⟨some 27,none,.ck (.t 24)⟩,⟨some 28,none,.fa 530 (.t 27)⟩,⟨some 29,none,.ia 8 64 (.t 28) (.t 25)⟩,⟨some 30,none,.ia 8 8 (.t 29) (.t 26)⟩,⟨some 31,none,.ld (some 8) (.t 30)⟩,⟨some 32,none,.mov (.c (.int .i64 0))⟩]) (.block 4 (.loop (.seq (.reg [⟨some 33,none,.bin .lss (.t 32) (.c (.int .i64 8))⟩]) (.seq (.cond (.t 33) .skip (.exit 4)) (.seq (.block 5 (.seq (.reg [⟨some 34,none,.mov (.t 32)⟩,⟨some 35,none,.ix 8 1 none (.t 31) (.t 32)⟩,⟨some 9,none,.mov (.t 34)⟩,⟨some 10,none,.mov (.t 35)⟩]) (.drw true [12] [⟨some 36,none,.ld (some 2) (.t 5)⟩,⟨some 37,none,.mov (.t 8)⟩,⟨some 38,none,.mov (.t 9)⟩,⟨some 39,none,.ia 8 64 (.t 6) (.t 37)⟩,⟨some 40,none,.ia 8 8 (.t 39) (.t 38)⟩,⟨some 41,none,.mov (.t 10)⟩,⟨some 42,none,.cv .i64 (.t 41)⟩,⟨some 43,none,.mov (.t 1)⟩,⟨some 44,none,.mov (.t 7)⟩,⟨some 45,none,.ck (.t 43)⟩,⟨some 46,none,.ia 8 8 (.t 45) (.t 44)⟩,⟨some 47,none,.ld (some 8) (.t 46)⟩,⟨some 48,none,.call 50 [(.t 36),(.t 40),(.t 42),(.t 47)]⟩]))) (.reg [⟨some 49,none,.bin .add (.t 32) (.c (.int .i64 1))⟩,⟨some 32,none,.mov (.t 49)⟩]))))))))) (.reg [⟨some 50,none,.bin .add (.t 21) (.c (.int .i64 1))⟩,⟨some 21,none,.mov (.t 50)⟩]))))))))) (.reg [⟨some 51,none,.bin .add (.t 16) (.c (.int .i64 1))⟩,⟨some 16,none,.mov (.t 51)⟩]))))))) (.seq (.reg [⟨some 52,none,.ld (some 512) (.t 6)⟩,⟨none,none,.st 512 (.t 4) (.t 52)⟩]) .ret))))
set_option maxRecDepth 100000 in
theorem tr61 : trFn Tryz.prog Tryz.f61 = some (53, ir61, [.cell (some 512) 4]) := by kernel_rfl
theorem Hopf_firstPart (h : HT) (a : Nat) (s : Nat → Int) (b bs os : Nat) (K Ks : Blk) (H : Hp) (n : Nat) (hS : HS h a) (hb : H.get b = some K) (hsz : K.size = 1106) (hK : h.At K.c) (hB : h.By)
    (hbs : H.get bs = some Ks) (ho : os + 64 ≤ Ks.size) (hc : ∀ i, i < 64 → Ks.c (os + i) = .int .u8 (s i)) (hs : isBy 64 s) :
    FnS Tryz.prog 61 [ptr b 0, ptr bs os] H n (fun r H' _ => r = .arr 512 (bys (fpt h.p h.c s a)) ∧ H' = H) := by
  have hp := hS.hp
  have ha := hS.ha
  have hk1 := hK.n
  rw [hS.hn] at hk1
  have hk5 := hK.c
  refine FnS.of_body Tryz.func61 tr61 (by simp) (fun hf => ?_)
  dsimp only [argEnv]
  unfold ir61
  have hbn := getlt hf hb
  have hbn2 := getlt hf hbs
  (repeat first|refine zG ?_|(refine LS.nilO ?_;intro nq hnq hltq;try refine zU ?_)|(refine MS.new ?_;intro bq hbq hbqf;try refine zU ?_)|(refine MS.nil ?_;intro nq hnq hltq;have hlq:=hltq _ _ (Hp.get_eq _ _ _);clear hltq;try refine zU ?_)|(refine LS.nilQ ?_;try with_reducible intro nq hnq;try refine zU ?_))
  refine RS.call rfl ((Hopf_field h.p a b K _ _ (by exact zH) hsz hK.p hk1 (by omega)).mono ?_)
  rintro r H' n2 hn2 ⟨rfl, rfl⟩
  (repeat first|refine zG ?_|(refine LS.nilO ?_;intro nq hnq hltq;try refine zU ?_)|(refine MS.new ?_;intro bq hbq hbqf;try refine zU ?_)|(refine MS.nil ?_;intro nq hnq hltq;have hlq:=hltq _ _ (Hp.get_eq _ _ _);clear hltq;try refine zU ?_)|(refine LS.nilQ ?_;try with_reducible intro nq hnq;try refine zU ?_))
  refine CS.iter a (fun k => [(16, i64 k), (15, i64 a), (0, ptr b 0), (1, ptr bs os), (4, ptr n 0), (5, ptr n2 0), (6, ptr (n2 + 1) 0)])
    (fun k => (n2 + 1, ⟨512, bys (fpt h.p h.c s k), 33⟩) :: (n2, ⟨2, fldC h.p a, 85⟩) :: (n, ⟨512, bys (fun _ => 0), 33⟩) :: H) (fun _ => True) (by (repeat first | exact trivial | refine And.intro rfl ?_))
    (Drops.keepc rfl rfl (fun _ _ => by rw [fpt_zero]; rfl) (Drops.keepc rfl rfl (fun _ _ => rfl) (Drops.keepc rfl rfl (fun _ _ => rfl) (Drops.refl _ _)))) trivial ?_
  intro k n3 hk hn _
  (repeat first|refine zG ?_|(refine LS.nilO ?_;intro nq hnq hltq;try refine zU ?_)|(refine MS.new ?_;intro bq hbq hbqf;try refine zU ?_)|(refine MS.nil ?_;intro nq hnq hltq;have hlq:=hltq _ _ (Hp.get_eq _ _ _);clear hltq;try refine zU ?_)|(refine LS.nilQ ?_;try with_reducible intro nq hnq;try refine zU ?_))
  refine zI ?_ ?_<;>intro h2
  · (repeat first|refine zG ?_|(refine LS.nilO ?_;intro nq hnq hltq;try refine zU ?_)|(refine MS.new ?_;intro bq hbq hbqf;try refine zU ?_)|(refine MS.nil ?_;intro nq hnq hltq;have hlq:=hltq _ _ (Hp.get_eq _ _ _);clear hltq;try refine zU ?_)|(refine LS.nilQ ?_;try with_reducible intro nq hnq;try refine zU ?_))
    refine CS.iter a (fun i => [(21, i64 i), (20, i64 a), (7, i64 k), (16, i64 k), (15, i64 a), (0, ptr b 0), (1, ptr bs os), (4, ptr n 0), (5, ptr n2 0), (6, ptr (n2 + 1) 0)])
      (fun i => (n2 + 1, ⟨512, bys (rowsTo (fpt h.p h.c s k) (fpt h.p h.c s (k + 1)) (8 * i)), 33⟩) :: (n2, ⟨2, fldC h.p a, 85⟩) :: (n, ⟨512, bys (fun _ => 0), 33⟩) :: H) (fun _ => True) (by (repeat first | exact trivial | refine And.intro rfl ?_))
      (Drops.keepc rfl rfl (fun _ _ => by rw [show rowsTo (fpt h.p h.c s k) (fpt h.p h.c s (k + 1)) (8 * 0) = fpt h.p h.c s k from rowsTo_zero _ _]) (Drops.refl _ _)) trivial ?_
    intro i n4 hi hn4 _
    (repeat first|refine zG ?_|(refine LS.nilO ?_;intro nq hnq hltq;try refine zU ?_)|(refine MS.new ?_;intro bq hbq hbqf;try refine zU ?_)|(refine MS.nil ?_;intro nq hnq hltq;have hlq:=hltq _ _ (Hp.get_eq _ _ _);clear hltq;try refine zU ?_)|(refine LS.nilQ ?_;try with_reducible intro nq hnq;try refine zU ?_))
    refine zI ?_ ?_<;>intro h3
    · (repeat first|refine zG ?_|(refine LS.nilO ?_;intro nq hnq hltq;try refine zU ?_)|(refine MS.new ?_;intro bq hbq hbqf;try refine zU ?_)|(refine MS.nil ?_;intro nq hnq hltq;have hlq:=hltq _ _ (Hp.get_eq _ _ _);clear hltq;try refine zU ?_)|(refine LS.nilQ ?_;try with_reducible intro nq hnq;try refine zU ?_))
      refine CS.iter 8 (fun j => [(32, i64 j), (31, .arr 8 (bys (fun x => h.c (64 * k + 8 * i + x)))), (8, i64 i), (21, i64 i), (20, i64 a), (7, i64 k), (16, i64 k), (15, i64 a), (0, ptr b 0), (1, ptr bs os), (4, ptr n 0), (5, ptr n2 0), (6, ptr (n2 + 1) 0)])
        (fun j => (n2 + 1, ⟨512, bys (rowsTo (fpt h.p h.c s k) (fpt h.p h.c s (k + 1)) (8 * i + j)), 33⟩) :: (n2, ⟨2, fldC h.p a, 85⟩) :: (n, ⟨512, bys (fun _ => 0), 33⟩) :: H) (fun _ => True) (by (repeat first | exact trivial | refine And.intro rfl ?_)) (Drops.refl _ _) trivial ?_
      intro j n5 hj hn5 _
      (repeat first|refine zG ?_|(refine LS.nilO ?_;intro nq hnq hltq;try refine zU ?_)|(refine MS.new ?_;intro bq hbq hbqf;try refine zU ?_)|(refine MS.nil ?_;intro nq hnq hltq;have hlq:=hltq _ _ (Hp.get_eq _ _ _);clear hltq;try refine zU ?_)|(refine LS.nilQ ?_;try with_reducible intro nq hnq;try refine zU ?_))
      refine zI ?_ ?_<;>intro h4
      · have hx := hB.c (64 * k + 8 * i + j) (by omega)
        (repeat first|refine zG ?_|(refine LS.nilO ?_;intro nq hnq hltq;try refine zU ?_)|(refine MS.new ?_;intro bq hbq hbqf;try refine zU ?_)|(refine MS.nil ?_;intro nq hnq hltq;have hlq:=hltq _ _ (Hp.get_eq _ _ _);clear hltq;try refine zU ?_)|(refine LS.nilQ ?_;try with_reducible intro nq hnq;try refine zU ?_))
        refine RS.call rfl ((field_plus h.p a (h.c (64 * k + 8 * i + j)) (fun y => fpt h.p h.c s k (64 * i + 8 * j + y)) (fun y => s (8 * k + y)) (n2 + 1) (64 * i + 8 * j) ⟨512, bys (rowsTo (fpt h.p h.c s k) (fpt h.p h.c s (k + 1)) (8 * i + j)), 33⟩ _ _ hp (by exact zH) (show 64 * i + 8 * j + 8 ≤ 512 by omega)
          (fun y hy => by simp only [bys, rowsTo]; rw [if_neg (by omega)]) (fun y hy => fpt_res hp.1 _ _ _ 512 _ (by omega)) (fun x hx => hs _ (by omega)) (by omega)).mono ?_)
        rintro r H' n6 hn6 ⟨rfl, rfl⟩
        simp (disch := omega) only [Hp.set_eq, Hp.set_ne]
        (repeat first|refine zG ?_|(refine LS.nilO ?_;intro nq hnq hltq;try refine zU ?_)|(refine MS.new ?_;intro bq hbq hbqf;try refine zU ?_)|(refine MS.nil ?_;intro nq hnq hltq;have hlq:=hltq _ _ (Hp.get_eq _ _ _);clear hltq;try refine zU ?_)|(refine LS.nilQ ?_;try with_reducible intro nq hnq;try refine zU ?_))
        refine ⟨by omega, by (repeat first | exact trivial | refine And.intro rfl ?_), Drops.keepc rfl rfl (fun q hq => ?_) (Drops.refl _ _), trivial⟩
        rw [show 64 * i + 8 * j = 8 * (8 * i + j) by omega]
        refine rowsTo_step (fun y hy => ?_) q
        rw [← fpt_row _ _ _ _ _ _ _ hy, show 8 * (8 * i + j) = 64 * i + 8 * j by omega]
      · have : j = 8 := by omega
        subst this
        (repeat first|refine zG ?_|(refine LS.nilO ?_;intro nq hnq hltq;try refine zU ?_)|(refine MS.new ?_;intro bq hbq hbqf;try refine zU ?_)|(refine MS.nil ?_;intro nq hnq hltq;have hlq:=hltq _ _ (Hp.get_eq _ _ _);clear hltq;try refine zU ?_)|(refine LS.nilQ ?_;try with_reducible intro nq hnq;try refine zU ?_))
        exact ⟨by omega, by (repeat first | exact trivial | refine And.intro rfl ?_), Drops.refl _ _, trivial⟩
    · have : i = a := by omega
      subst this
      (repeat first|refine zG ?_|(refine LS.nilO ?_;intro nq hnq hltq;try refine zU ?_)|(refine MS.new ?_;intro bq hbq hbqf;try refine zU ?_)|(refine MS.nil ?_;intro nq hnq hltq;have hlq:=hltq _ _ (Hp.get_eq _ _ _);clear hltq;try refine zU ?_)|(refine LS.nilQ ?_;try with_reducible intro nq hnq;try refine zU ?_))
      exact ⟨by omega, by (repeat first | exact trivial | refine And.intro rfl ?_), Drops.keepc rfl rfl (fun q hq => by simp only [bys]; rw [rowsTo_all (N := 512) (fun q h1 h2 => fpt_same (hS.cm.at (by omega) (by omega) (.inr (by omega)))) hq]) (Drops.refl _ _), trivial⟩
  · have : k = a := by omega
    subst this
    (repeat first|refine zG ?_|(refine LS.nilO ?_;intro nq hnq hltq;try refine zU ?_)|(refine MS.new ?_;intro bq hbq hbqf;try refine zU ?_)|(refine MS.nil ?_;intro nq hnq hltq;have hlq:=hltq _ _ (Hp.get_eq _ _ _);clear hltq;try refine zU ?_)|(refine LS.nilQ ?_;try with_reducible intro nq hnq;try refine zU ?_))
    exact ⟨.arr 512 (bys (fpt h.p h.c s k)), H, conc_arr (fun q hq => by simp only [Nat.zero_add]), by exact zD, rfl, rfl⟩
/-- (*impl.Hopf).underS -/
def ir25 : Cd := (.seq (.reg [⟨some 4,none,.new 29 [(64,(.int .u8 0))]⟩]) (.seq (.reg [⟨some 10,none,.mov (.t 0)⟩,⟨some 11,none,.call 49 [(.t 10)]⟩,⟨some 12,none,.build 64 [(64,(.int .u8 0))] []⟩,⟨some 5,none,.new 85 [(2,(.int .i64 0))]⟩,⟨some 6,none,.new 29 [(64,(.int .u8 0))]⟩,⟨none,none,.st 2 (.t 5) (.t 11)⟩,⟨none,none,.st 64 (.t 6) (.t 12)⟩]) (.seq (.seq (.reg [⟨some 13,none,.fa 1 (.t 5)⟩,⟨some 14,none,.ld none (.t 13)⟩,⟨some 15,none,.mov (.c (.int .i64 0))⟩]) (.block 0 (.loop (.seq (.reg [⟨some 16,none,.bin .lss (.t 15) (.t 14)⟩]) (.seq (.cond (.t 16) .skip (.exit 0)) (.seq (.block 1 (.seq (.reg [⟨some 17,none,.mov (.t 15)⟩,⟨some 7,none,.mov (.t 17)⟩]) (.seq (.reg [⟨some 18,none,.mov (.t 0)⟩,⟨some 19,none,.mov (.t 7)⟩,⟨some 20,none,.ck (.t 18)⟩,⟨some 21,none,.fa 1042 (.t 20)⟩,⟨some 22,none,.ia 8 8 (.t 21) (.t 19)⟩,⟨some 23,none,.ld (some 8) (.t 22)⟩,⟨some 24,none,.mov (.c (.int .i64 0))⟩]) (.block 2 (.loop (.seq (.reg [⟨some 25,none,.bin .lss (.t 24) (.c (.int .i64 8))⟩]) (.seq (.cond (.t 25) .skip (.exit 2)) (.seq (.block 3 (.seq (.reg [⟨some 26,none,.mov (.t 24)⟩,⟨some 27,none,.ix 8 1 none (.t 23) (.t 24)⟩,⟨some 8,none,.mov (.t 26)⟩,⟨some 9,none,.mov (.t 27)⟩]) (.drw true [10] [⟨some 28,none,.ld (some 2) (.t 5)⟩,⟨some 29,none,.mov (.t 8)⟩,⟨some 30,none,.ia 8 8 (.t 6) (.t 29)⟩,⟨some 31,none,.mov (.t 9)⟩,⟨some 32,none,.cv .i64 (.t 31)⟩,⟨some 33,none,.mov (.t 1)⟩,⟨some 34,none,.mov (.t 7)⟩,⟨some 35,none,.ck (.t 33)⟩,⟨some 36,none,.ia 8 8 (.t 35) (.t 34)⟩,⟨some 37,none,.ld (some 8) (.t 36)⟩,⟨some 38,none,.call 50 [(.t 28),(.t 30),(.t 32),(.t 37)]⟩]))) (.reg [⟨some 39,none,.bin .add (.t 24) (.c (.int .i64 1))⟩,⟨some 24,none,.mov (.t 39)⟩]))))))))) (.reg [⟨some 40,none,.bin .add (.t 15) (.c (.int .i64 1))⟩,⟨some 15,none,.mov (.t 40)⟩]))))))) (.seq (.reg [⟨some 41,none,.ld (some 64) (.t 6)⟩,⟨none,none,.st 64 (.t 4) (.t 41)⟩]) .ret))))
set_option maxRecDepth 100000 in
theorem tr25 : trFn Tryz.prog Tryz.f25 = some (42, ir25, [.cell (some 64) 4]) := by kernel_rfl
theorem Hopf_underS (h : HT) (a : Nat) (s : Nat → Int) (b bs os : Nat) (K Ks : Blk) (H : Hp) (n : Nat) (hS : HS h a) (hb : H.get b = some K) (hsz : K.size = 1106) (hK : h.At K.c) (hB : h.By)
    (hbs : H.get bs = some Ks) (ho : os + 64 ≤ Ks.size) (hc : ∀ i, i < 64 → Ks.c (os + i) = .int .u8 (s i)) (hs : isBy 64 s) :
    FnS Tryz.prog 25 [ptr b 0, ptr bs os] H n (fun r H' _ => r = .arr 64 (bys (und h.p h.s s a)) ∧ H' = H) := by
  have hp := hS.hp
  have ha := hS.ha
  have hk1 := hK.n
  rw [hS.hn] at hk1
  have hk5 := hK.s
  refine FnS.of_body Tryz.func25 tr25 (by simp) (fun hf => ?_)
  dsimp only [argEnv]
  unfold ir25
  have hbn := getlt hf hb
  have hbn2 := getlt hf hbs
  (repeat first|refine zG ?_|(refine LS.nilO ?_;intro nq hnq hltq;try refine zU ?_)|(refine MS.new ?_;intro bq hbq hbqf;try refine zU ?_)|(refine MS.nil ?_;intro nq hnq hltq;have hlq:=hltq _ _ (Hp.get_eq _ _ _);clear hltq;try refine zU ?_)|(refine LS.nilQ ?_;try with_reducible intro nq hnq;try refine zU ?_))
  refine RS.call rfl ((Hopf_field h.p a b K _ _ (by exact zH) hsz hK.p hk1 (by omega)).mono ?_)
  rintro r H' n2 hn2 ⟨rfl, rfl⟩
  (repeat first|refine zG ?_|(refine LS.nilO ?_;intro nq hnq hltq;try refine zU ?_)|(refine MS.new ?_;intro bq hbq hbqf;try refine zU ?_)|(refine MS.nil ?_;intro nq hnq hltq;have hlq:=hltq _ _ (Hp.get_eq _ _ _);clear hltq;try refine zU ?_)|(refine LS.nilQ ?_;try with_reducible intro nq hnq;try refine zU ?_))
  refine CS.iter a (fun k => [(15, i64 k), (14, i64 a), (0, ptr b 0), (1, ptr bs os), (4, ptr n 0), (5, ptr n2 0), (6, ptr (n2 + 1) 0)])
    (fun k => (n2 + 1, ⟨64, bys (und h.p h.s s k), 29⟩) :: (n2, ⟨2, fldC h.p a, 85⟩) :: (n, ⟨64, bys (fun _ => 0), 29⟩) :: H) (fun _ => True) (by (repeat first | exact trivial | refine And.intro rfl ?_))
    (Drops.keepc rfl rfl (fun _ _ => by rw [und_zero]; rfl) (Drops.keepc rfl rfl (fun _ _ => rfl) (Drops.keepc rfl rfl (fun _ _ => rfl) (Drops.refl _ _)))) trivial ?_
  intro k n3 hk hn _
  (repeat first|refine zG ?_|(refine LS.nilO ?_;intro nq hnq hltq;try refine zU ?_)|(refine MS.new ?_;intro bq hbq hbqf;try refine zU ?_)|(refine MS.nil ?_;intro nq hnq hltq;have hlq:=hltq _ _ (Hp.get_eq _ _ _);clear hltq;try refine zU ?_)|(refine LS.nilQ ?_;try with_reducible intro nq hnq;try refine zU ?_))
  refine zI ?_ ?_<;>intro h2
  · (repeat first|refine zG ?_|(refine LS.nilO ?_;intro nq hnq hltq;try refine zU ?_)|(refine MS.new ?_;intro bq hbq hbqf;try refine zU ?_)|(refine MS.nil ?_;intro nq hnq hltq;have hlq:=hltq _ _ (Hp.get_eq _ _ _);clear hltq;try refine zU ?_)|(refine LS.nilQ ?_;try with_reducible intro nq hnq;try refine zU ?_))
    refine CS.iter 8 (fun i => [(24, i64 i), (23, .arr 8 (bys (fun x => h.s (8 * k + x)))), (7, i64 k), (15, i64 k), (14, i64 a), (0, ptr b 0), (1, ptr bs os), (4, ptr n 0), (5, ptr n2 0), (6, ptr (n2 + 1) 0)])
      (fun i => (n2 + 1, ⟨64, bys (rowsTo (und h.p h.s s k) (und h.p h.s s (k + 1)) i), 29⟩) :: (n2, ⟨2, fldC h.p a, 85⟩) :: (n, ⟨64, bys (fun _ => 0), 29⟩) :: H) (fun _ => True) (by (repeat first | exact trivial | refine And.intro rfl ?_))
      (Drops.keepc rfl rfl (fun _ _ => by rw [rowsTo_zero]) (Drops.refl _ _)) trivial ?_
    intro i n4 hi hn4 _
    (repeat first|refine zG ?_|(refine LS.nilO ?_;intro nq hnq hltq;try refine zU ?_)|(refine MS.new ?_;intro bq hbq hbqf;try refine zU ?_)|(refine MS.nil ?_;intro nq hnq hltq;have hlq:=hltq _ _ (Hp.get_eq _ _ _);clear hltq;try refine zU ?_)|(refine LS.nilQ ?_;try with_reducible intro nq hnq;try refine zU ?_))
    refine zI ?_ ?_<;>intro h3
    · have hx := hB.s (8 * k + i) (by omega)
      (repeat first|refine zG ?_|(refine LS.nilO ?_;intro nq hnq hltq;try refine zU ?_)|(refine MS.new ?_;intro bq hbq hbqf;try refine zU ?_)|(refine MS.nil ?_;intro nq hnq hltq;have hlq:=hltq _ _ (Hp.get_eq _ _ _);clear hltq;try refine zU ?_)|(refine LS.nilQ ?_;try with_reducible intro nq hnq;try refine zU ?_))
      refine RS.call rfl ((field_plus h.p a (h.s (8 * k + i)) (fun y => und h.p h.s s k (8 * i + y)) (fun y => s (8 * k + y)) (n2 + 1) (8 * i) ⟨64, bys (rowsTo (und h.p h.s s k) (und h.p h.s s (k + 1)) i), 29⟩ _ _ hp (by exact zH) (show 8 * i + 8 ≤ 64 by omega)
        (fun y hy => by simp only [bys, rowsTo]; rw [if_neg (by omega)]) (fun y hy => und_res hp.1 _ _ _ 64 _ (by omega)) (fun x hx => hs _ (by omega)) (by omega)).mono ?_)
      rintro r H' n6 hn6 ⟨rfl, rfl⟩
      simp (disch := omega) only [Hp.set_eq, Hp.set_ne]
      (repeat first|refine zG ?_|(refine LS.nilO ?_;intro nq hnq hltq;try refine zU ?_)|(refine MS.new ?_;intro bq hbq hbqf;try refine zU ?_)|(refine MS.nil ?_;intro nq hnq hltq;have hlq:=hltq _ _ (Hp.get_eq _ _ _);clear hltq;try refine zU ?_)|(refine LS.nilQ ?_;try with_reducible intro nq hnq;try refine zU ?_))
      refine ⟨by omega, by (repeat first | exact trivial | refine And.intro rfl ?_), Drops.keepc rfl rfl (fun q hq => rowsTo_step (fun y hy => ?_) q) (Drops.refl _ _), trivial⟩
      rw [← und_row _ _ _ _ _ _ hy]
    · have : i = 8 := by omega
      subst this
      (repeat first|refine zG ?_|(refine LS.nilO ?_;intro nq hnq hltq;try refine zU ?_)|(refine MS.new ?_;intro bq hbq hbqf;try refine zU ?_)|(refine MS.nil ?_;intro nq hnq hltq;have hlq:=hltq _ _ (Hp.get_eq _ _ _);clear hltq;try refine zU ?_)|(refine LS.nilQ ?_;try with_reducible intro nq hnq;try refine zU ?_))
      exact ⟨by omega, by (repeat first | exact trivial | refine And.intro rfl ?_), Drops.keepc rfl rfl (fun q hq => by simp only [bys]; rw [rowsTo_all (N := 64) (fun q h1 h2 => by omega) hq]) (Drops.refl _ _), trivial⟩
  · have : k = a := by omega
    subst this
    (repeat first|refine zG ?_|(refine LS.nilO ?_;intro nq hnq hltq;try refine zU ?_)|(refine MS.new ?_;intro bq hbq hbqf;try refine zU ?_)|(refine MS.nil ?_;intro nq hnq hltq;have hlq:=hltq _ _ (Hp.get_eq _ _ _);clear hltq;try refine zU ?_)|(refine LS.nilQ ?_;try with_reducible intro nq hnq;try refine zU ?_))
    exact ⟨.arr 64 (bys (und h.p h.s s k)), H, conc_arr (fun q hq => by simp only [Nat.zero_add]), by exact zD, rfl, rfl⟩
/-- (*impl.Hopf).secondPart -/
def ir62 : Cd := (.seq (.reg [⟨some 4,none,.new 33 [(512,(.int .u8 0))]⟩]) (.seq (.reg [⟨some 11,none,.mov (.t 0)⟩,⟨some 12,none,.call 49 [(.t 11)]⟩,⟨some 13,none,.build 512 [(512,(.int .u8 0))] []⟩,⟨some 5,none,.new 85 [(2,(.int .i64 0))]⟩,⟨some 6,none,.new 33 [(512,(.int .u8 0))]⟩,⟨none,none,.st 2 (.t 5) (.t 12)⟩,⟨none,none,.st 512 (.t 6) (.t 13)⟩]) (.seq (.seq (.reg [⟨some 14,none,.fa 1 (.t 5)⟩,⟨some 15,none,.ld none (.t 14)⟩,⟨some 16,none,.mov (.c (.int .i64 0))⟩]) (.block 0 (.loop (.seq (.reg [⟨some 17,none,.bin .lss (.t 16) (.t 15)⟩]) (.seq (.cond (.t 17) .skip (.exit 0)) (.seq (.block 1 (.seq (.reg [⟨some 18,none,.mov (.t 16)⟩,⟨some 7,none,.mov (.t 18)⟩]) (.seq (.reg [⟨some 19,none,.mov (.t 1)⟩,⟨some 20,none,.mov (.t 7)⟩,⟨some 21,none,.ck (.t 19)⟩,⟨some 22,none,.ia 8 8 (.t 21) (.t 20)⟩,⟨some 23,none,.ld (some 8) (.t 22)⟩,⟨some 24,none,.mov (.c (.int .i64 0))⟩]) (.block 2 (.loop (.seq (.reg [⟨some 25,none,.bin .lss (.t 24) (.c (.int .i64 8))⟩]) (.seq (.cond (.t 25) .skip (.exit 2)) (.seq (.block 3 (.seq (.reg [⟨some 26,none,.mov (.t 24)⟩,⟨some 27,none,.ix 8 1 none (.t 23) (.t 24)⟩,⟨some 8,none,.mov (.t 26)⟩,⟨some 9,none,.mov (.t 27)⟩]) (.seq (.reg [⟨some 28,none,.fa 1 (.t 5)⟩,⟨some 29,none,.ld none (.t 28)⟩,⟨some 30,none,.mov (.c (.int .i64 0))⟩]) (.block 4 (.loop (.seq (.reg [⟨some 31,none,.bin .lss (.t 30) (.t 29)⟩]) (.seq (.cond (.t 31) .skip (.exit 4)) (.seq (.block 5 (.seq (.reg [⟨some 32,none,.mov (.t 30)⟩,⟨some 10,none,.mov (.t 32)⟩]) (.drw true [15] [⟨some 33,none,.ld (some 2) (.t 5)⟩,⟨some 34,none,.mov (.t 7)⟩,⟨some 35,none,.mov (.t 10)⟩,⟨some 36,none,.ia 8 64 (.t 6) (.t 34)⟩,⟨some 37,none,.ia 8 8 (.t 36) (.t 35)⟩,⟨some 38,none,.mov (.t 9)⟩,⟨some 39,none,.cv .i64 (.t 38)⟩,⟨some 40,none,.mov (.t 0)⟩,⟨some 41,none,.mov (.t 8)⟩,⟨some 42,none,.mov (.t 10)⟩,⟨some 43,none,.ck (.t 40)⟩,⟨some 44,none,.fa 530 (.t 43)⟩,⟨some 45,none,.ia 8 64 (.t 44) (.t 41)⟩,⟨some 46,none,.ia 8 8 (.t 45) (.t 42)⟩,⟨some 47,none,.ld (some 8) (.t 46)⟩,⟨some 48,none,.call 50 [(.t 33),(.t 37),(.t 39),(.t 47)]⟩]))) (.reg [⟨some 49,none,.bin .add (.t 30) (.c (.int .i64 1))⟩,⟨some 30,none,.mov (.t 49)⟩]))))))))) (.reg [⟨some 50,none,.bin .add (.t 24) (.c (.int .i64 1))⟩,⟨some 24,none,.mov (.t 50)⟩]))))))))) (.reg [⟨some 51,none,.bin .add (.t 16) (.c (.int .i64 1))⟩,⟨some 16,none,.mov (.t 51)⟩]))))))) (.seq (.reg [⟨some 52,none,.ld (some 512) (.t 6)⟩,⟨none,none,.st 512 (.t 4) (.t 52)⟩]) .ret))))
set_option maxRecDepth 100000 in
theorem tr62 : trFn Tryz.prog Tryz.f62 = some (53, ir62, [.cell (some 512) 4]) := by kernel_rfl
theorem Hopf_secondPart (h : HT) (a : Nat) (s : Nat → Int) (b bs os : Nat) (K Ks : Blk) (H : Hp) (n : Nat) (hS : HS h a) (hb : H.get b = some K) (hsz : K.size = 1106) (hK : h.At K.c) (hB : h.By)
    (hbs : H.get bs = some Ks) (ho : os + 64 ≤ Ks.size) (hc : ∀ i, i < 64 → Ks.c (os + i) = .int .u8 (s i)) (hs : isBy 64 s) (hz : lz a s) :
    FnS Tryz.prog 62 [ptr b 0, ptr bs os] H n (fun r H' _ => r = .arr 512 (bys (snd h.p h.c s)) ∧ H' = H) := by
  have hp := hS.hp
  have ha := hS.ha
  have hk1 := hK.n
  rw [hS.hn] at hk1
  have hk5 := hK.c
  refine FnS.of_body Tryz.func62 tr62 (by simp) (fun hf => ?_)
  dsimp only [argEnv]
  unfold ir62
  have hbn := getlt hf hb
  have hbn2 := getlt hf hbs
  (repeat first|refine zG ?_|(refine LS.nilO ?_;intro nq hnq hltq;try refine zU ?_)|(refine MS.new ?_;intro bq hbq hbqf;try refine zU ?_)|(refine MS.nil ?_;intro nq hnq hltq;have hlq:=hltq _ _ (Hp.get_eq _ _ _);clear hltq;try refine zU ?_)|(refine LS.nilQ ?_;try with_reducible intro nq hnq;try refine zU ?_))
  refine RS.call rfl ((Hopf_field h.p a b K _ _ (by exact zH) hsz hK.p hk1 (by omega)).mono ?_)
  rintro r H' n2 hn2 ⟨rfl, rfl⟩
  (repeat first|refine zG ?_|(refine LS.nilO ?_;intro nq hnq hltq;try refine zU ?_)|(refine MS.new ?_;intro bq hbq hbqf;try refine zU ?_)|(refine MS.nil ?_;intro nq hnq hltq;have hlq:=hltq _ _ (Hp.get_eq _ _ _);clear hltq;try refine zU ?_)|(refine LS.nilQ ?_;try with_reducible intro nq hnq;try refine zU ?_))
  refine CS.iter a (fun i => [(16, i64 i), (15, i64 a), (0, ptr b 0), (1, ptr bs os), (4, ptr n 0), (5, ptr n2 0), (6, ptr (n2 + 1) 0)])
    (fun i => (n2 + 1, ⟨512, bys (spt h.p h.c s i 0), 33⟩) :: (n2, ⟨2, fldC h.p a, 85⟩) :: (n, ⟨512, bys (fun _ => 0), 33⟩) :: H) (fun _ => True) (by (repeat first | exact trivial | refine And.intro rfl ?_))
    (Drops.keepc rfl rfl (fun _ _ => by rw [spt_zero]; rfl) (Drops.keepc rfl rfl (fun _ _ => rfl) (Drops.keepc rfl rfl (fun _ _ => rfl) (Drops.refl _ _)))) trivial ?_
  intro i n3 hi hn _
  (repeat first|refine zG ?_|(refine LS.nilO ?_;intro nq hnq hltq;try refine zU ?_)|(refine MS.new ?_;intro bq hbq hbqf;try refine zU ?_)|(refine MS.nil ?_;intro nq hnq hltq;have hlq:=hltq _ _ (Hp.get_eq _ _ _);clear hltq;try refine zU ?_)|(refine LS.nilQ ?_;try with_reducible intro nq hnq;try refine zU ?_))
  refine zI ?_ ?_<;>intro h2
  · (repeat first|refine zG ?_|(refine LS.nilO ?_;intro nq hnq hltq;try refine zU ?_)|(refine MS.new ?_;intro bq hbq hbqf;try refine zU ?_)|(refine MS.nil ?_;intro nq hnq hltq;have hlq:=hltq _ _ (Hp.get_eq _ _ _);clear hltq;try refine zU ?_)|(refine LS.nilQ ?_;try with_reducible intro nq hnq;try refine zU ?_))
    refine CS.iter 8 (fun k => [(24, i64 k), (23, .arr 8 (bys (fun x => s (8 * i + x)))), (7, i64 i), (16, i64 i), (15, i64 a), (0, ptr b 0), (1, ptr bs os), (4, ptr n 0), (5, ptr n2 0), (6, ptr (n2 + 1) 0)])
      (fun k => (n2 + 1, ⟨512, bys (spt h.p h.c s i k), 33⟩) :: (n2, ⟨2, fldC h.p a, 85⟩) :: (n, ⟨512, bys (fun _ => 0), 33⟩) :: H) (fun _ => True) (by (repeat first | exact trivial | refine And.intro rfl ?_)) (Drops.refl _ _) trivial ?_
    intro k n4 hk hn4 _
    (repeat first|refine zG ?_|(refine LS.nilO ?_;intro nq hnq hltq;try refine zU ?_)|(refine MS.new ?_;intro bq hbq hbqf;try refine zU ?_)|(refine MS.nil ?_;intro nq hnq hltq;have hlq:=hltq _ _ (Hp.get_eq _ _ _);clear hltq;try refine zU ?_)|(refine LS.nilQ ?_;try with_reducible intro nq hnq;try refine zU ?_))
    refine zI ?_ ?_<;>intro h3
    · (repeat first|refine zG ?_|(refine LS.nilO ?_;intro nq hnq hltq;try refine zU ?_)|(refine MS.new ?_;intro bq hbq hbqf;try refine zU ?_)|(refine MS.nil ?_;intro nq hnq hltq;have hlq:=hltq _ _ (Hp.get_eq _ _ _);clear hltq;try refine zU ?_)|(refine LS.nilQ ?_;try with_reducible intro nq hnq;try refine zU ?_))
      refine CS.iter a (fun j => [(30, i64 j), (29, i64 a), (8, i64 k), (9, u8 (s (8 * i + k))), (24, i64 k), (23, .arr 8 (bys (fun x => s (8 * i + x)))), (7, i64 i), (16, i64 i), (15, i64 a), (0, ptr b 0), (1, ptr bs os), (4, ptr n 0), (5, ptr n2 0), (6, ptr (n2 + 1) 0)])
        (fun j => (n2 + 1, ⟨512, bys (rowsTo (spt h.p h.c s i k) (spt h.p h.c s i (k + 1)) (8 * i + j)), 33⟩) :: (n2, ⟨2, fldC h.p a, 85⟩) :: (n, ⟨512, bys (fun _ => 0), 33⟩) :: H) (fun _ => True) (by (repeat first | exact trivial | refine And.intro rfl ?_))
        (Drops.keepc rfl rfl (fun _ _ => by rw [← rowsTo_more (x := 0) (y := 8 * i + 0) (by omega) (fun q h1 h2 => spt_same (.inl (by omega))), rowsTo_zero]) (Drops.refl _ _)) trivial ?_
      intro j n5 hj hn5 _
      (repeat first|refine zG ?_|(refine LS.nilO ?_;intro nq hnq hltq;try refine zU ?_)|(refine MS.new ?_;intro bq hbq hbqf;try refine zU ?_)|(refine MS.nil ?_;intro nq hnq hltq;have hlq:=hltq _ _ (Hp.get_eq _ _ _);clear hltq;try refine zU ?_)|(refine LS.nilQ ?_;try with_reducible intro nq hnq;try refine zU ?_))
      refine zI ?_ ?_<;>intro h4
      · have hx := hs (8 * i + k) (by omega)
        (repeat first|refine zG ?_|(refine LS.nilO ?_;intro nq hnq hltq;try refine zU ?_)|(refine MS.new ?_;intro bq hbq hbqf;try refine zU ?_)|(refine MS.nil ?_;intro nq hnq hltq;have hlq:=hltq _ _ (Hp.get_eq _ _ _);clear hltq;try refine zU ?_)|(refine LS.nilQ ?_;try with_reducible intro nq hnq;try refine zU ?_))
        refine RS.call rfl ((field_plus h.p a (s (8 * i + k)) (fun y => spt h.p h.c s i k (64 * i + 8 * j + y)) (fun y => h.c (64 * k + 8 * j + y)) (n2 + 1) (64 * i + 8 * j) ⟨512, bys (rowsTo (spt h.p h.c s i k) (spt h.p h.c s i (k + 1)) (8 * i + j)), 33⟩ _ _ hp (by exact zH) (show 64 * i + 8 * j + 8 ≤ 512 by omega)
          (fun y hy => by simp only [bys, rowsTo]; rw [if_neg (by omega)]) (fun y hy => spt_res hp.1 _ _ _ _ 512 _ (by omega)) (fun x hx => hB.c _ (by omega)) (by omega)).mono ?_)
        rintro r H' n6 hn6 ⟨rfl, rfl⟩
        simp (disch := omega) only [Hp.set_eq, Hp.set_ne]
        (repeat first|refine zG ?_|(refine LS.nilO ?_;intro nq hnq hltq;try refine zU ?_)|(refine MS.new ?_;intro bq hbq hbqf;try refine zU ?_)|(refine MS.nil ?_;intro nq hnq hltq;have hlq:=hltq _ _ (Hp.get_eq _ _ _);clear hltq;try refine zU ?_)|(refine LS.nilQ ?_;try with_reducible intro nq hnq;try refine zU ?_))
        refine ⟨by omega, by (repeat first | exact trivial | refine And.intro rfl ?_), Drops.keepc rfl rfl (fun q hq => ?_) (Drops.refl _ _), trivial⟩
        rw [show 64 * i + 8 * j = 8 * (8 * i + j) by omega]
        refine rowsTo_step (fun y hy => ?_) q
        rw [← spt_row _ _ _ _ _ _ _ (by omega) hy, show 8 * (8 * i + j) = 64 * i + 8 * j by omega]
      · have : j = a := by omega
        subst this
        (repeat first|refine zG ?_|(refine LS.nilO ?_;intro nq hnq hltq;try refine zU ?_)|(refine MS.new ?_;intro bq hbq hbqf;try refine zU ?_)|(refine MS.nil ?_;intro nq hnq hltq;have hlq:=hltq _ _ (Hp.get_eq _ _ _);clear hltq;try refine zU ?_)|(refine LS.nilQ ?_;try with_reducible intro nq hnq;try refine zU ?_))
        exact ⟨by omega, by (repeat first | exact trivial | refine And.intro rfl ?_), Drops.keepc rfl rfl (fun q hq => by
          simp only [bys]
          rw [rowsTo_all (N := 512) (fun q h1 h2 => ?_) hq]
          by_cases h5 : q < 64 * (i + 1)
          · exact spt_same (.inr (hS.cm.at (by omega) (by omega) (.inr (by omega))))
          · unfold spt; rw [if_neg (by omega), if_neg h5, if_neg (by omega), if_neg h5]) (Drops.refl _ _), trivial⟩
    · have : k = 8 := by omega
      subst this
      (repeat first|refine zG ?_|(refine LS.nilO ?_;intro nq hnq hltq;try refine zU ?_)|(refine MS.new ?_;intro bq hbq hbqf;try refine zU ?_)|(refine MS.nil ?_;intro nq hnq hltq;have hlq:=hltq _ _ (Hp.get_eq _ _ _);clear hltq;try refine zU ?_)|(refine LS.nilQ ?_;try with_reducible intro nq hnq;try refine zU ?_))
      exact ⟨by omega, by (repeat first | exact trivial | refine And.intro rfl ?_), by rw [spt_next]; exact Drops.refl _ _, trivial⟩
  · have : i = a := by omega
    subst this
    (repeat first|refine zG ?_|(refine LS.nilO ?_;intro nq hnq hltq;try refine zU ?_)|(refine MS.new ?_;intro bq hbq hbqf;try refine zU ?_)|(refine MS.nil ?_;intro nq hnq hltq;have hlq:=hltq _ _ (Hp.get_eq _ _ _);clear hltq;try refine zU ?_)|(refine LS.nilQ ?_;try with_reducible intro nq hnq;try refine zU ?_))
    exact ⟨.arr 512 (bys (snd h.p h.c s)), H, conc_arr (fun q hq => by simp only [Nat.zero_add, bys]; rw [spt_end hz hq]), by exact zD, rfl, rfl⟩
end Go.Proofs.YtbknndbfbebkdabGreatR
