/- Whether maps are a module, on the reference's side. -/
import Derived.Test.YtmkegkpabifpfaaGreatJbe
namespace Go.V
set_option linter.unusedSimpArgs false
set_option linter.unusedVariables false
theorem mshp.res {p d : Int} {N : Nat} {t : Nat → Int} (h : mshp p d N t) (ht : isBy 512 t) : isRes p 512 t := fun q hq => by
  have := ((h.2 (q / 64) (by omega)).1.res (fun x hx => ht _ (by omega))) (q % 64) (by omega)
  dsimp only at this
  rwa [show 64 * (q / 64) + q % 64 = q by omega] at this
theorem mshp.zero {p : Int} {d N : Nat} {t : Nat → Int} (h : mshp p d N t) {i j x : Nat} (hi : i < 8) (hj : j < 8) (hx : x < 8) (hz : N ≤ i ∨ d ≤ j ∨ d ≤ x) : t (64 * i + 8 * j + x) = 0 := by
  rcases hz with hz | hz | hz
  · have := (h.2 i hi).2 hz (8 * j + x) (by omega)
    rwa [Nat.add_assoc]
  · have := ((h.2 i hi).1 j hj).2 (by omega) x hx
    rwa [Nat.add_assoc]
  · have := (((h.2 i hi).1 j hj).1 x hx).2 (by omega)
    rwa [Nat.add_assoc]
end Go.V
namespace Go.Proofs.YtmkegkpabifpfaaGreat
open Go.V
set_option linter.unusedSimpArgs false
set_option linter.unusedVariables false
set_option maxHeartbeats 4000000

/-- spec.l06Holds -/
def ir24 : Cd := (.seq (.reg [⟨some 2,none,.box 40 (.t 0)⟩,⟨some 3,none,.box 46 (.t 1)⟩,⟨some 4,none,.mov (.c (.bool false))⟩]) (.seq (.seq (.reg [⟨some 10,none,.fa 0 (.t 3)⟩,⟨some 11,none,.ld none (.t 10)⟩,⟨some 12,none,.call 42 [(.t 11),(.c (.int .i64 1)),(.c (.int .i64 8))]⟩,⟨some 13,none,.un .not (.t 12)⟩]) (.cond (.t 13) (.seq (.reg [⟨some 4,none,.mov (.c (.bool false))⟩]) .ret) .skip)) (.seq (.seq (.reg [⟨some 5,none,.mov (.c (.int .i64 0))⟩]) (.block 0 (.loop (.seq (.seq (.reg [⟨some 14,none,.mov (.t 5)⟩,⟨some 15,none,.bin .lss (.t 14) (.c (.int .i64 8))⟩]) (.cond (.t 15) .skip (.exit 0))) (.seq (.block 1 (.seq (.drw true [] [⟨some 18,none,.fa 0 (.t 2)⟩,⟨some 19,none,.ld none (.t 18)⟩,⟨some 20,none,.fa 0 (.t 3)⟩,⟨some 21,none,.ld none (.t 20)⟩,⟨some 22,none,.mov (.t 5)⟩,⟨some 23,none,.fa 1 (.t 3)⟩,⟨some 24,none,.ia 8 64 (.t 23) (.t 22)⟩,⟨some 25,none,.ld (some 64) (.t 24)⟩,⟨some 26,none,.call 43 [(.t 19),(.t 21),(.t 25)]⟩,⟨some 27,none,.un .not (.t 26)⟩,⟨some 28,none,.mov (.t 27)⟩,⟨some 29,(some (28,false)),.mov (.t 5)⟩,⟨some 30,(some (28,false)),.fa 1 (.t 2)⟩,⟨some 31,(some (28,false)),.ld none (.t 30)⟩,⟨some 32,(some (28,false)),.bin .geq (.t 29) (.t 31)⟩,⟨some 33,(some (28,false)),.mov (.t 32)⟩,⟨some 34,(some (33,true)),.mov (.t 5)⟩,⟨some 35,(some (33,true)),.fa 1 (.t 3)⟩,⟨some 36,(some (33,true)),.ia 8 64 (.t 35) (.t 34)⟩,⟨some 37,(some (33,true)),.ld (some 64) (.t 36)⟩,⟨some 38,(some (33,true)),.build 64 [(64,(.int .u8 0))] []⟩,⟨some 39,(some (33,true)),.eqa true 64 (.t 37) (.t 38)⟩,⟨some 40,(some (28,false)),.pick (.t 33) (.t 39) (.c (.bool false))⟩,⟨some 41,none,.pick (.t 28) (.c (.bool true)) (.t 40)⟩]) (.cond (.t 41) (.seq (.reg [⟨some 4,none,.mov (.c (.bool false))⟩]) .ret) .skip))) (.reg [⟨some 16,none,.mov (.t 5)⟩,⟨some 17,none,.bin .add (.t 16) (.c (.int .i64 1))⟩,⟨some 5,none,.mov (.t 17)⟩])))))) (.seq (.seq (.reg [⟨some 6,none,.mov (.c (.int .i64 0))⟩]) (.block 2 (.loop (.seq (.seq (.reg [⟨some 42,none,.mov (.t 6)⟩,⟨some 43,none,.fa 0 (.t 3)⟩,⟨some 44,none,.ld none (.t 43)⟩,⟨some 45,none,.bin .lss (.t 42) (.t 44)⟩]) (.cond (.t 45) .skip (.exit 2))) (.seq (.block 3 (.seq (.reg [⟨some 48,none,.mov (.t 6)⟩,⟨some 49,none,.call 40 [(.t 48)]⟩,⟨some 7,none,.new 34 [(8,(.int .u8 0))]⟩,⟨none,none,.st 8 (.t 7) (.t 49)⟩]) (.seq (.seq (.drw true [] [⟨some 50,none,.ld (some 1106) (.t 2)⟩,⟨some 51,none,.ld (some 513) (.t 3)⟩,⟨some 52,none,.fa 2 (.t 2)⟩,⟨some 53,none,.ld (some 8) (.t 52)⟩,⟨some 54,none,.ld (some 8) (.t 7)⟩,⟨some 55,none,.call 44 [(.t 50),(.t 51),(.t 53),(.t 54)]⟩,⟨some 56,none,.ld (some 8) (.t 7)⟩,⟨some 57,none,.eqa true 8 (.t 55) (.t 56)⟩]) (.cond (.t 57) (.seq (.reg [⟨some 4,none,.mov (.c (.bool false))⟩]) .ret) .skip)) (.seq (.reg [⟨some 8,none,.mov (.c (.int .i64 0))⟩]) (.block 4 (.loop (.seq (.seq (.reg [⟨some 58,none,.mov (.t 8)⟩,⟨some 59,none,.fa 1 (.t 2)⟩,⟨some 60,none,.ld none (.t 59)⟩,⟨some 61,none,.bin .lss (.t 58) (.t 60)⟩]) (.cond (.t 61) .skip (.exit 4))) (.seq (.block 5 (.seq (.reg [⟨some 9,none,.mov (.c (.int .i64 0))⟩]) (.block 6 (.loop (.seq (.seq (.reg [⟨some 64,none,.mov (.t 9)⟩,⟨some 65,none,.fa 1 (.t 2)⟩,⟨some 66,none,.ld none (.t 65)⟩,⟨some 67,none,.bin .lss (.t 64) (.t 66)⟩]) (.cond (.t 67) .skip (.exit 6))) (.seq (.block 7 (.seq (.drw true [24] [⟨some 70,none,.ld (some 1106) (.t 2)⟩,⟨some 71,none,.ld (some 513) (.t 3)⟩,⟨some 72,none,.mov (.t 8)⟩,⟨some 73,none,.mov (.t 9)⟩,⟨some 74,none,.fa 10 (.t 2)⟩,⟨some 75,none,.ia 8 64 (.t 74) (.t 72)⟩,⟨some 76,none,.ia 8 8 (.t 75) (.t 73)⟩,⟨some 77,none,.ld (some 8) (.t 76)⟩,⟨some 78,none,.ld (some 8) (.t 7)⟩,⟨some 79,none,.call 44 [(.t 70),(.t 71),(.t 77),(.t 78)]⟩,⟨some 80,none,.fa 0 (.t 2)⟩,⟨some 81,none,.ld none (.t 80)⟩,⟨some 82,none,.fa 0 (.t 3)⟩,⟨some 83,none,.ld none (.t 82)⟩,⟨some 84,none,.mov (.t 8)⟩,⟨some 85,none,.fa 1 (.t 3)⟩,⟨some 86,none,.ia 8 64 (.t 85) (.t 84)⟩,⟨some 87,none,.ld (some 64) (.t 86)⟩,⟨some 88,none,.mov (.t 9)⟩,⟨some 89,none,.mov (.t 6)⟩,⟨some 90,none,.fa 1 (.t 3)⟩,⟨some 91,none,.ia 8 64 (.t 90) (.t 88)⟩,⟨some 92,none,.ia 8 8 (.t 91) (.t 89)⟩,⟨some 93,none,.ld (some 8) (.t 92)⟩,⟨some 94,none,.call 25 [(.t 81),(.t 83),(.t 87),(.t 93)]⟩,⟨some 95,none,.eqa true 8 (.t 79) (.t 94)⟩]) (.cond (.t 95) (.seq (.reg [⟨some 4,none,.mov (.c (.bool false))⟩]) .ret) .skip))) (.reg [⟨some 68,none,.mov (.t 9)⟩,⟨some 69,none,.bin .add (.t 68) (.c (.int .i64 1))⟩,⟨some 9,none,.mov (.t 69)⟩]))))))) (.reg [⟨some 62,none,.mov (.t 8)⟩,⟨some 63,none,.bin .add (.t 62) (.c (.int .i64 1))⟩,⟨some 8,none,.mov (.t 63)⟩]))))))))) (.reg [⟨some 46,none,.mov (.t 6)⟩,⟨some 47,none,.bin .add (.t 46) (.c (.int .i64 1))⟩,⟨some 6,none,.mov (.t 47)⟩])))))) (.seq (.reg [⟨some 4,none,.mov (.c (.bool true))⟩]) .ret)))))
set_option maxRecDepth 100000 in
theorem tr24 : trFn Tryz.prog Tryz.f24 = some (96, ir24, [.tmp 4]) := by kernel_rfl

theorem spec_l06Holds (h : HT) (N : Nat) (d : Int) (t : Nat → Int) (Kh Km : Nat → SV) (H : Hp) (n : Nat) (hS : HS h N) (hK : h.At Kh) (hB : h.By) (kd : Km 0 = .int .i64 d) (cm : ∀ q, q < 512 → Km (1 + q) = .int .u8 (t q)) (ht : isBy 512 t) :
    FnS Tryz.prog 24 [.arr 1106 Kh, .arr 513 Km] H n (fun r H' _ => r = bl (tb (isModule h N d t)) ∧ H' = H) := by
  have hp := hS.hp
  have hN := hS.ha
  have hk0 := hK.p
  have hk1 := hK.n
  have hku := hK.u
  have hkm := hK.m
  rw [hS.hn] at hk1
  have hk1' : Kh (0 + 1) = .int .i64 (N : Nat) := hk1
  refine FnS.of_body Tryz.func24 tr24 (by simp) (fun hf => ?_)
  dsimp only [argEnv]
  unfold ir24
  (refine zG ?_)
  refine RS.call rfl ((spec_l01In d 1 8 _ _).mono ?_)
  rintro r H' n0 hn0 ⟨rfl, rfl⟩
  (refine zG ?_)
  refine zI ?_ ?_<;>intro h0
  · (refine zG ?_)
    exact ⟨_, H, rfl, by exact zD, by rw [tb_false (fun q => h0 q.1.1)], rfl⟩
  obtain ⟨d, rfl⟩ := Int.eq_ofNat_of_zero_le (show 0 ≤ d by omega)
  have hd1 : 1 ≤ d := by omega
  have hd : d ≤ 8 := by omega
  (refine zG ?_)
  refine CS.iter 8 (fun i => [(5, i64 (i : Nat)), (2, ptr n 0), (3, ptr (n + 1) 0)]) (fun _ => (n + 1, ⟨513, Km, 46⟩) :: (n, ⟨1106, Kh, 40⟩) :: H)
    (fun i => ∀ j : Nat, j < i → isLin h.p d d (fun x => t (64 * j + x)) ∧ (N ≤ j → ∀ x, x < 64 → t (64 * j + x) = 0)) (by (repeat first | exact trivial | refine And.intro rfl ?_)) (Drops.refl _ _) (fun j hj => by omega) ?_
  intro i n1 hi hn hJ
  (refine zG ?_)
  refine zI ?_ ?_<;>intro h1
  · (refine zG ?_)
    refine LS.callQ (bl (tb (isLin h.p d d (fun x => t (64 * i + x))))) rfl (fun n' hn' => spec_l01Linear h.p d (fun x => t (64 * i + x)) _ _ (fun x hx => ht _ (by omega))) ?_
    (refine zG ?_)
    refine RS.sp (t := 28) rfl (fun h2 => ?_) (fun h2 => ?_) <;> (try simp only [tb_eq, tb_eqF, decide_eq_true_eq, decide_eq_false_iff_not, beq_iff_eq, bne_iff_ne, ne_eq, Decidable.not_not, beq_eq_false_iff_ne, bne_eq_false_iff_eq, Bool.not_eq_true', Bool.not_eq_false', Bool.not_eq_eq_eq_not, Bool.not_true, Bool.not_false] at h2)
    · (repeat first|refine zG ?_|(refine LS.nilO ?_;intro nq hnq hltq;try refine zU ?_)|(refine MS.new ?_;intro bq hbq hbqf;try refine zU ?_)|(refine MS.nil ?_;intro nq hnq hltq;have hlq:=hltq _ _ (Hp.get_eq _ _ _);clear hltq;try refine zU ?_)|(refine LS.nilQ ?_;try with_reducible intro nq hnq;try refine zU ?_))
      exact ⟨_, H, rfl, by exact zD, by rw [tb_false (fun q => h2 (q.1.2 i (by omega)).1)], rfl⟩
    · (refine zG ?_)
      refine RS.sp (t := 33) rfl (fun h3 => ?_) (fun h3 => ?_) <;> (try simp only [tb_eq, tb_eqF, decide_eq_true_eq, decide_eq_false_iff_not, beq_iff_eq, bne_iff_ne, ne_eq, Decidable.not_not, beq_eq_false_iff_ne, bne_eq_false_iff_eq, Bool.not_eq_true', Bool.not_eq_false', Bool.not_eq_eq_eq_not, Bool.not_true, Bool.not_false] at h3)
      · (repeat first|refine zG ?_|(refine LS.nilO ?_;intro nq hnq hltq;try refine zU ?_)|(refine MS.new ?_;intro bq hbq hbqf;try refine zU ?_)|(refine MS.nil ?_;intro nq hnq hltq;have hlq:=hltq _ _ (Hp.get_eq _ _ _);clear hltq;try refine zU ?_)|(refine LS.nilQ ?_;try with_reducible intro nq hnq;try refine zU ?_))
        refine zI ?_ ?_<;>intro h4
        · (refine zG ?_)
          exact ⟨_, H, rfl, by exact zD, by rw [tb_false (fun q => h4 (fun x hx => (q.1.2 i (by omega)).2 (by omega) x hx))], rfl⟩
        · (refine zG ?_)
          refine ⟨by omega, by (repeat first | exact trivial | refine And.intro rfl ?_), by exact zD, fun j hj => ?_⟩
          by_cases e : j = i
          · subst e; exact ⟨h2, fun _ => h4⟩
          · exact hJ j (by omega)
      · (repeat first|refine zG ?_|(refine LS.nilO ?_;intro nq hnq hltq;try refine zU ?_)|(refine MS.new ?_;intro bq hbq hbqf;try refine zU ?_)|(refine MS.nil ?_;intro nq hnq hltq;have hlq:=hltq _ _ (Hp.get_eq _ _ _);clear hltq;try refine zU ?_)|(refine LS.nilQ ?_;try with_reducible intro nq hnq;try refine zU ?_))
        refine ⟨by omega, by (repeat first | exact trivial | refine And.intro rfl ?_), by exact zD, fun j hj => ?_⟩
        by_cases e : j = i
        · subst e; exact ⟨h2, fun h => by omega⟩
        · exact hJ j (by omega)
  obtain rfl : i = 8 := by omega
  have hsh : mshp h.p d N t := ⟨by omega, fun j hj => hJ j hj⟩
  have htr := hsh.res ht
  clear hJ
  (refine zG ?_)
  refine CS.iter d (fun k => [(6, i64 (k : Nat)), (2, ptr n 0), (3, ptr (n + 1) 0)]) (fun _ => (n + 1, ⟨513, Km, 46⟩) :: (n, ⟨1106, Kh, 40⟩) :: H)
    (fun k => ∀ k', k' < k → (∀ x, x < 8 → cps h.p t h.u 8 (8 * k' + x) = bas k' x) ∧ ∀ i j, i < N → j < N → ∀ x, x < 8 → cps h.p t (fun y => h.m (64 * i + 8 * j + y)) 8 (8 * k' + x) = app h.p (fun y => t (64 * i + y)) (fun y => t (64 * j + 8 * k' + y)) x) (by (repeat first | exact trivial | refine And.intro rfl ?_)) (Drops.refl _ _) (fun j hj => by omega) ?_
  intro k n2 hk hn2 hJ
  (refine zG ?_)
  refine zI ?_ ?_<;>intro h2
  · have hk' : k < d := by omega
    (refine zG ?_)
    refine RS.call rfl ((spec_l01Basis k _ _ (by omega)).mono ?_)
    rintro r H2 n3 hn3 ⟨rfl, rfl⟩
    (refine zG ?_)
    refine LS.callQ (.arr 8 (bys (act h.p t h.u (bas k) d N))) rfl (fun n' hn' => spec_l06Act h N d t h.u (bas k) Kh Km _ _ hS hK kd cm ht hd hB.u (bas_by _ _)) ?_
    (repeat first|refine zG ?_|(refine LS.nilO ?_;intro nq hnq hltq;try refine zU ?_)|(refine MS.new ?_;intro bq hbq hbqf;try refine zU ?_)|(refine MS.nil ?_;intro nq hnq hltq;have hlq:=hltq _ _ (Hp.get_eq _ _ _);clear hltq;try refine zU ?_)|(refine LS.nilQ ?_;try with_reducible intro nq hnq;try refine zU ?_))
    refine zI ?_ ?_<;>intro h3
    · (refine zG ?_)
      exact ⟨_, H, rfl, by exact zD, by rw [tb_false (fun q => h3 (fun x hx => by rw [act_bas hp.1 htr hN hS.um hk' hd hx]; exact q.2.1 k hk' x hx))], rfl⟩
    have e3 : ∀ x, x < 8 → cps h.p t h.u 8 (8 * k + x) = bas k x := fun x hx => by rw [← act_bas hp.1 htr hN hS.um hk' hd hx]; exact h3 x hx
    clear h3
    (refine zG ?_)
    refine CS.iter N (fun i => [(8, i64 (i : Nat)), (7, ptr n3 0), (6, i64 (k : Nat)), (2, ptr n 0), (3, ptr (n + 1) 0)]) (fun _ => (n3, ⟨8, bys (bas k), 34⟩) :: (n + 1, ⟨513, Km, 46⟩) :: (n, ⟨1106, Kh, 40⟩) :: H)
      (fun i => ∀ i' j, i' < i → j < N → ∀ x, x < 8 → cps h.p t (fun y => h.m (64 * i' + 8 * j + y)) 8 (8 * k + x) = app h.p (fun y => t (64 * i' + y)) (fun y => t (64 * j + 8 * k + y)) x) (by (repeat first | exact trivial | refine And.intro rfl ?_)) (Drops.refl _ _) (fun i' j hj => by omega) ?_
    intro i n5 hi hn5 hJi
    (refine zG ?_)
    refine zI ?_ ?_<;>intro h4
    · have hi' : i < N := by omega
      (refine zG ?_)
      refine CS.iter N (fun j => [(9, i64 (j : Nat)), (8, i64 (i : Nat)), (7, ptr n3 0), (6, i64 (k : Nat)), (2, ptr n 0), (3, ptr (n + 1) 0)]) (fun _ => (n3, ⟨8, bys (bas k), 34⟩) :: (n + 1, ⟨513, Km, 46⟩) :: (n, ⟨1106, Kh, 40⟩) :: H)
        (fun j => ∀ j', j' < j → ∀ x, x < 8 → cps h.p t (fun y => h.m (64 * i + 8 * j' + y)) 8 (8 * k + x) = app h.p (fun y => t (64 * i + y)) (fun y => t (64 * j' + 8 * k + y)) x) (by (repeat first | exact trivial | refine And.intro rfl ?_)) (Drops.refl _ _) (fun j hj => by omega) ?_
      intro j n6 hj hn6 hJj
      (refine zG ?_)
      refine zI ?_ ?_<;>intro h5
      · have hj' : j < N := by omega
        have hva : vz N (fun y => h.m (64 * i + 8 * j + y)) := fun x hx hx2 => hS.mm i j x (by omega) (by omega) hx (.inr (.inr hx2))
        have eap : apk h.p (fun y => t (64 * i + y)) (fun y => t (64 * j + 8 * k + y)) d = app h.p (fun y => t (64 * i + y)) (fun y => t (64 * j + 8 * k + y)) := apk_more hd (fun y h1 h2 => hsh.zero (by omega) (by omega) h2 (.inr (.inr h1)))
        (refine zG ?_)
        refine LS.callQ (.arr 8 (bys (act h.p t (fun y => h.m (64 * i + 8 * j + y)) (bas k) d N))) rfl (fun n' hn' => spec_l06Act h N d t (fun y => h.m (64 * i + 8 * j + y)) (bas k) Kh Km _ _ hS hK kd cm ht hd (fun x hx => hB.m _ (by omega)) (bas_by _ _)) ?_
        (repeat first|refine zG ?_|(refine LS.nilO ?_;intro nq hnq hltq;try refine zU ?_)|(refine MS.new ?_;intro bq hbq hbqf;try refine zU ?_)|(refine MS.nil ?_;intro nq hnq hltq;have hlq:=hltq _ _ (Hp.get_eq _ _ _);clear hltq;try refine zU ?_)|(refine LS.nilQ ?_;try with_reducible intro nq hnq;try refine zU ?_))
        refine RS.call rfl ((spec_l01Apply h.p d (fun y => t (64 * i + y)) (fun y => t (64 * j + 8 * k + y)) _ _ hp hd (fun x hx => ht _ (by omega)) (fun x hx => ht _ (by omega))).mono ?_)
        rintro r H2 n7 hn7 ⟨rfl, rfl⟩
        (refine zG ?_)
        refine zI ?_ ?_<;>intro h6
        · (refine zG ?_)
          exact ⟨_, H, rfl, by exact zD, by rw [tb_false (fun q => h6 (fun x hx => by rw [eap, act_bas hp.1 htr hN hva hk' hd hx]; exact q.2.2 i j hi' hj' k hk' x hx))], rfl⟩
        · (refine zG ?_)
          refine ⟨by omega, by (repeat first | exact trivial | refine And.intro rfl ?_), Drops.refl _ _, fun j' hj2 x hx => ?_⟩
          by_cases e : j' = j
          · subst e
            have := h6 x hx
            rw [eap, act_bas hp.1 htr hN hva hk' hd hx] at this
            exact this
          · exact hJj j' (by omega) x hx
      · obtain rfl : N = j := by omega
        (refine zG ?_)
        refine ⟨by omega, by (repeat first | exact trivial | refine And.intro rfl ?_), Drops.refl _ _, fun i' j hi2 hj2 x hx => ?_⟩
        by_cases e : i' = i
        · subst e; exact hJj j hj2 x hx
        · exact hJi i' j (by omega) hj2 x hx
    · obtain rfl : N = i := by omega
      (refine zG ?_)
      refine ⟨by omega, by (repeat first | exact trivial | refine And.intro rfl ?_), by exact zD, fun k' hk2 => ?_⟩
      by_cases e : k' = k
      · subst e; exact ⟨e3, fun i j h1 h2 => hJi i j h1 h2⟩
      · exact hJ k' (by omega)
  · obtain rfl : d = k := by omega
    (refine zG ?_)
    exact ⟨_, H, rfl, by exact zD, by rw [tb_true (show isModule h N d t from ⟨hsh, fun k hk => (hJ k hk).1, fun i j h1 h2 k hk => (hJ k hk).2 i j h1 h2⟩)], rfl⟩

end Go.Proofs.YtmkegkpabifpfaaGreat

/- Module algebras, on the reference's side. -/
namespace Go.V
set_option linter.unusedSimpArgs false
set_option linter.unusedVariables false
/-- The product of what the parts of a term do to two basis elements. -/
def mag (p : Int) (am t : Nat → Int) (s x y q : Nat) : Nat → Int := pr p am (fun z => t (64 * (q / 8) + 8 * x + z)) (fun z => t (64 * (q % 8) + 8 * y + z)) s
theorem mag_res {p : Int} (hp : 2 ≤ p) (am t : Nat → Int) (s x y q N : Nat) : isRes p N (mag p am t s x y q) := pr_res hp _ _ _ _ _
/-- A module algebra. -/
def isMA (h : HT) (N s : Nat) (au am t : Nat → Int) : Prop := ∀ i, i < N → (∀ q, q < 8 → app h.p (fun y => t (64 * i + y)) au q = pl h.p (fun _ => 0) (h.e i) au q) ∧
  ∀ x y, x < s → y < s → ∀ q, q < 8 → fold h.p h.c i (mag h.p am t s x y) 64 q = app h.p (fun z => t (64 * i + z)) (fun z => am (64 * x + 8 * y + z)) q
/-- The cells of an algebra. -/
structure AAt (p n' : Int) (u m : Nat → Int) (K : Nat → SV) : Prop where
  p : K 0 = .int .i64 p
  n : K 1 = .int .i64 n'
  u : ∀ q, q < 8 → K (2 + q) = .int .u8 (u q)
  m : ∀ q, q < 512 → K (10 + q) = .int .u8 (m q)
end Go.V
namespace Go.Proofs.YtmkegkpabifpfaaGreat
open Go.V
set_option linter.unusedSimpArgs false
set_option linter.unusedVariables false
set_option maxHeartbeats 4000000

/-- spec.l08Algebra -/
def ir13 : Cd := (.seq (.reg [⟨some 3,none,.box 40 (.t 0)⟩,⟨some 4,none,.box 43 (.t 1)⟩,⟨some 5,none,.box 46 (.t 2)⟩,⟨some 6,none,.mov (.c (.bool false))⟩]) (.seq (.seq (.reg [⟨some 7,none,.mov (.c (.int .i64 0))⟩]) (.block 0 (.loop (.seq (.seq (.reg [⟨some 14,none,.mov (.t 7)⟩,⟨some 15,none,.fa 1 (.t 3)⟩,⟨some 16,none,.ld none (.t 15)⟩,⟨some 17,none,.bin .lss (.t 14) (.t 16)⟩]) (.cond (.t 17) .skip (.exit 0))) (.seq (.block 1 (.seq (.seq (.drw true [21] [⟨some 20,none,.fa 0 (.t 3)⟩,⟨some 21,none,.ld none (.t 20)⟩,⟨some 22,none,.fa 0 (.t 5)⟩,⟨some 23,none,.ld none (.t 22)⟩,⟨some 24,none,.mov (.t 7)⟩,⟨some 25,none,.fa 1 (.t 5)⟩,⟨some 26,none,.ia 8 64 (.t 25) (.t 24)⟩,⟨some 27,none,.ld (some 64) (.t 26)⟩,⟨some 28,none,.fa 2 (.t 4)⟩,⟨some 29,none,.ld (some 8) (.t 28)⟩,⟨some 30,none,.call 25 [(.t 21),(.t 23),(.t 27),(.t 29)]⟩,⟨some 31,none,.fa 0 (.t 3)⟩,⟨some 32,none,.ld none (.t 31)⟩,⟨some 33,none,.build 8 [(8,(.int .u8 0))] []⟩,⟨some 34,none,.fa 2 (.t 4)⟩,⟨some 35,none,.ld (some 8) (.t 34)⟩,⟨some 36,none,.mov (.t 7)⟩,⟨some 37,none,.fa 522 (.t 3)⟩,⟨some 38,none,.ia 8 1 (.t 37) (.t 36)⟩,⟨some 39,none,.ld none (.t 38)⟩,⟨some 40,none,.cv .i64 (.t 39)⟩,⟨some 41,none,.call 26 [(.t 32),(.t 33),(.t 35),(.t 40)]⟩,⟨some 42,none,.eqa true 8 (.t 30) (.t 41)⟩]) (.cond (.t 42) (.seq (.reg [⟨some 6,none,.mov (.c (.bool false))⟩]) .ret) .skip)) (.seq (.reg [⟨some 8,none,.mov (.c (.int .i64 0))⟩]) (.block 2 (.loop (.seq (.seq (.reg [⟨some 43,none,.mov (.t 8)⟩,⟨some 44,none,.fa 1 (.t 4)⟩,⟨some 45,none,.ld none (.t 44)⟩,⟨some 46,none,.bin .lss (.t 43) (.t 45)⟩]) (.cond (.t 46) .skip (.exit 2))) (.seq (.block 3 (.seq (.reg [⟨some 9,none,.mov (.c (.int .i64 0))⟩]) (.block 4 (.loop (.seq (.seq (.reg [⟨some 49,none,.mov (.t 9)⟩,⟨some 50,none,.fa 1 (.t 4)⟩,⟨some 51,none,.ld none (.t 50)⟩,⟨some 52,none,.bin .lss (.t 49) (.t 51)⟩]) (.cond (.t 52) .skip (.exit 4))) (.seq (.block 5 (.seq (.reg [⟨some 55,none,.build 8 [(8,(.int .u8 0))] []⟩,⟨some 10,none,.new 34 [(8,(.int .u8 0))]⟩,⟨none,none,.st 8 (.t 10) (.t 55)⟩]) (.seq (.seq (.reg [⟨some 11,none,.mov (.c (.int .i64 0))⟩]) (.block 6 (.loop (.seq (.seq (.reg [⟨some 56,none,.mov (.t 11)⟩,⟨some 57,none,.fa 1 (.t 3)⟩,⟨some 58,none,.ld none (.t 57)⟩,⟨some 59,none,.bin .lss (.t 56) (.t 58)⟩]) (.cond (.t 59) .skip (.exit 6))) (.seq (.block 7 (.seq (.reg [⟨some 12,none,.mov (.c (.int .i64 0))⟩]) (.block 8 (.loop (.seq (.seq (.reg [⟨some 62,none,.mov (.t 12)⟩,⟨some 63,none,.fa 1 (.t 3)⟩,⟨some 64,none,.ld none (.t 63)⟩,⟨some 65,none,.bin .lss (.t 62) (.t 64)⟩]) (.cond (.t 65) .skip (.exit 8))) (.seq (.block 9 (.seq (.reg [⟨some 68,none,.mov (.t 7)⟩,⟨some 69,none,.mov (.t 11)⟩,⟨some 70,none,.mov (.t 12)⟩,⟨some 71,none,.fa 530 (.t 3)⟩,⟨some 72,none,.ia 8 64 (.t 71) (.t 68)⟩,⟨some 73,none,.ia 8 8 (.t 72) (.t 69)⟩,⟨some 74,none,.ia 8 1 (.t 73) (.t 70)⟩,⟨some 75,none,.ld none (.t 74)⟩,⟨some 13,none,.mov (.t 75)⟩]) (.seq (.reg [⟨some 76,none,.mov (.t 13)⟩,⟨some 77,none,.bin .neq (.t 76) (.c (.int .u8 0))⟩]) (.cond (.t 77) (.drwo true [19,20] [0,1,2,3,4,5,6,7,8,9,10,11,12,13,14,15,17,18,16,19,20] [⟨some 78,none,.fa 0 (.t 3)⟩,⟨some 79,none,.ld none (.t 78)⟩,⟨some 80,none,.ld (some 8) (.t 10)⟩,⟨some 81,none,.ld (some 522) (.t 4)⟩,⟨some 82,none,.mov (.t 11)⟩,⟨some 83,none,.mov (.t 8)⟩,⟨some 84,none,.fa 1 (.t 5)⟩,⟨some 85,none,.ia 8 64 (.t 84) (.t 82)⟩,⟨some 86,none,.ia 8 8 (.t 85) (.t 83)⟩,⟨some 87,none,.ld (some 8) (.t 86)⟩,⟨some 88,none,.mov (.t 12)⟩,⟨some 89,none,.mov (.t 9)⟩,⟨some 90,none,.fa 1 (.t 5)⟩,⟨some 91,none,.ia 8 64 (.t 90) (.t 88)⟩,⟨some 92,none,.ia 8 8 (.t 91) (.t 89)⟩,⟨some 93,none,.ld (some 8) (.t 92)⟩,⟨some 94,none,.call 27 [(.t 81),(.t 87),(.t 93)]⟩,⟨some 95,none,.mov (.t 13)⟩,⟨some 96,none,.cv .i64 (.t 95)⟩,⟨some 97,none,.call 26 [(.t 79),(.t 80),(.t 94),(.t 96)]⟩,⟨none,none,.st 8 (.t 10) (.t 97)⟩]) .skip)))) (.reg [⟨some 66,none,.mov (.t 12)⟩,⟨some 67,none,.bin .add (.t 66) (.c (.int .i64 1))⟩,⟨some 12,none,.mov (.t 67)⟩]))))))) (.reg [⟨some 60,none,.mov (.t 11)⟩,⟨some 61,none,.bin .add (.t 60) (.c (.int .i64 1))⟩,⟨some 11,none,.mov (.t 61)⟩])))))) (.seq (.drw true [] [⟨some 98,none,.ld (some 8) (.t 10)⟩,⟨some 99,none,.fa 0 (.t 3)⟩,⟨some 100,none,.ld none (.t 99)⟩,⟨some 101,none,.fa 0 (.t 5)⟩,⟨some 102,none,.ld none (.t 101)⟩,⟨some 103,none,.mov (.t 7)⟩,⟨some 104,none,.fa 1 (.t 5)⟩,⟨some 105,none,.ia 8 64 (.t 104) (.t 103)⟩,⟨some 106,none,.ld (some 64) (.t 105)⟩,⟨some 107,none,.mov (.t 8)⟩,⟨some 108,none,.mov (.t 9)⟩,⟨some 109,none,.fa 10 (.t 4)⟩,⟨some 110,none,.ia 8 64 (.t 109) (.t 107)⟩,⟨some 111,none,.ia 8 8 (.t 110) (.t 108)⟩,⟨some 112,none,.ld (some 8) (.t 111)⟩,⟨some 113,none,.call 25 [(.t 100),(.t 102),(.t 106),(.t 112)]⟩,⟨some 114,none,.eqa true 8 (.t 98) (.t 113)⟩]) (.cond (.t 114) (.seq (.reg [⟨some 6,none,.mov (.c (.bool false))⟩]) .ret) .skip))))) (.reg [⟨some 53,none,.mov (.t 9)⟩,⟨some 54,none,.bin .add (.t 53) (.c (.int .i64 1))⟩,⟨some 9,none,.mov (.t 54)⟩]))))))) (.reg [⟨some 47,none,.mov (.t 8)⟩,⟨some 48,none,.bin .add (.t 47) (.c (.int .i64 1))⟩,⟨some 8,none,.mov (.t 48)⟩])))))))) (.reg [⟨some 18,none,.mov (.t 7)⟩,⟨some 19,none,.bin .add (.t 18) (.c (.int .i64 1))⟩,⟨some 7,none,.mov (.t 19)⟩])))))) (.seq (.reg [⟨some 6,none,.mov (.c (.bool true))⟩]) .ret)))
set_option maxRecDepth 100000 in
theorem tr13 : trFn Tryz.prog Tryz.f13 = some (115, ir13, [.tmp 6]) := by kernel_rfl

theorem spec_l08Algebra (h : HT) (N s : Nat) (au am t : Nat → Int) (Kh Ka Km : Nat → SV) (H : Hp) (n : Nat) (hS : HS h N) (hK : h.At Kh) (hB : h.By) (hs : s ≤ 8) (hA : AAt h.p (s : Nat) au am Ka) (hu : isBy 8 au) (hm : isBy 512 am) (hvu : vz s au) (htm : tz s am)
    (kd : Km 0 = .int .i64 (s : Nat)) (cm : ∀ q, q < 512 → Km (1 + q) = .int .u8 (t q)) (ht : isBy 512 t) :
    FnS Tryz.prog 13 [.arr 1106 Kh, .arr 522 Ka, .arr 513 Km] H n (fun r H' _ => r = bl (tb (isMA h N s au am t)) ∧ H' = H) := by
  have hp := hS.hp
  have hN := hS.ha
  have hk0 := hK.p
  have hk1 := hK.n
  have hke := hK.e
  have hkc := hK.c
  rw [hS.hn] at hk1
  have hk1' : Kh (0 + 1) = .int .i64 (N : Nat) := hk1
  obtain ⟨a0, a1, aU, aM⟩ := hA
  have a1' : Ka (0 + 1) = .int .i64 (s : Nat) := a1
  refine FnS.of_body Tryz.func13 tr13 (by simp) (fun hf => ?_)
  dsimp only [argEnv]
  unfold ir13
  (refine zG ?_)
  refine CS.iter N (fun i => [(7, i64 (i : Nat)), (3, ptr n 0), (4, ptr (n + 1) 0), (5, ptr (n + 2) 0)]) (fun _ => (n + 2, ⟨513, Km, 46⟩) :: (n + 1, ⟨522, Ka, 43⟩) :: (n, ⟨1106, Kh, 40⟩) :: H)
    (fun i => ∀ i', i' < i → (∀ q, q < 8 → app h.p (fun y => t (64 * i' + y)) au q = pl h.p (fun _ => 0) (h.e i') au q) ∧
      ∀ x y, x < s → y < s → ∀ q, q < 8 → fold h.p h.c i' (mag h.p am t s x y) 64 q = app h.p (fun z => t (64 * i' + z)) (fun z => am (64 * x + 8 * y + z)) q) (by (repeat first | exact trivial | refine And.intro rfl ?_)) (Drops.refl _ _) (fun j hj => by omega) ?_
  intro i n1 hi hn1 hJ
  (refine zG ?_)
  refine zI ?_ ?_<;>intro h1
  · have hi' : i < N := by omega
    have hei := hB.e i (by omega)
    have eap : apk h.p (fun y => t (64 * i + y)) au s = app h.p (fun y => t (64 * i + y)) au := apk_more hs (fun y h1 h2 => hvu y h2 h1)
    (refine zG ?_)
    refine LS.callQ (.arr 8 (bys (apk h.p (fun y => t (64 * i + y)) au s))) rfl (fun n' hn' => spec_l01Apply h.p s (fun y => t (64 * i + y)) au _ _ hp hs (fun x hx => ht _ (by omega)) hu) ?_
    (repeat first|refine zG ?_|(refine LS.nilO ?_;intro nq hnq hltq;try refine zU ?_)|(refine MS.new ?_;intro bq hbq hbqf;try refine zU ?_)|(refine MS.nil ?_;intro nq hnq hltq;have hlq:=hltq _ _ (Hp.get_eq _ _ _);clear hltq;try refine zU ?_)|(refine LS.nilQ ?_;try with_reducible intro nq hnq;try refine zU ?_))
    refine RS.call rfl ((spec_l01Add h.p (h.e i) (fun _ => 0) au _ _ hp ((isRes_zero hp.1 8).by hp.2) hu (by omega)).mono ?_)
    rintro r H2 n2 hn2 ⟨rfl, rfl⟩
    (refine zG ?_)
    refine zI ?_ ?_<;>intro h2
    · (refine zG ?_)
      exact ⟨_, H, rfl, by exact zD, by rw [tb_false (fun q => h2 (fun x hx => by rw [eap]; exact (q i hi').1 x hx))], rfl⟩
    rw [eap] at h2
    (refine zG ?_)
    refine CS.iter s (fun x => [(8, i64 (x : Nat)), (7, i64 (i : Nat)), (3, ptr n 0), (4, ptr (n + 1) 0), (5, ptr (n + 2) 0)]) (fun _ => (n + 2, ⟨513, Km, 46⟩) :: (n + 1, ⟨522, Ka, 43⟩) :: (n, ⟨1106, Kh, 40⟩) :: H)
      (fun x => ∀ x' y, x' < x → y < s → ∀ q, q < 8 → fold h.p h.c i (mag h.p am t s x' y) 64 q = app h.p (fun z => t (64 * i + z)) (fun z => am (64 * x' + 8 * y + z)) q) (by (repeat first | exact trivial | refine And.intro rfl ?_)) (Drops.refl _ _) (fun x y hx => by omega) ?_
    intro x n3 hx hn3 hJx
    (refine zG ?_)
    refine zI ?_ ?_<;>intro h3
    · have hx' : x < s := by omega
      (refine zG ?_)
      refine CS.iter s (fun y => [(9, i64 (y : Nat)), (8, i64 (x : Nat)), (7, i64 (i : Nat)), (3, ptr n 0), (4, ptr (n + 1) 0), (5, ptr (n + 2) 0)]) (fun _ => (n + 2, ⟨513, Km, 46⟩) :: (n + 1, ⟨522, Ka, 43⟩) :: (n, ⟨1106, Kh, 40⟩) :: H)
        (fun y => ∀ y', y' < y → ∀ q, q < 8 → fold h.p h.c i (mag h.p am t s x y') 64 q = app h.p (fun z => t (64 * i + z)) (fun z => am (64 * x + 8 * y' + z)) q) (by (repeat first | exact trivial | refine And.intro rfl ?_)) (Drops.refl _ _) (fun y hy => by omega) ?_
      intro y n4 hy hn4 hJy
      (refine zG ?_)
      refine zI ?_ ?_<;>intro h4
      · have hy' : y < s := by omega
        obtain ⟨g, hg⟩ : ∃ g, g = mag h.p am t s x y := ⟨_, rfl⟩
        (refine zG ?_)
        refine CS.iter N (fun j => [(11, i64 (j : Nat)), (10, ptr n4 0), (9, i64 (y : Nat)), (8, i64 (x : Nat)), (7, i64 (i : Nat)), (3, ptr n 0), (4, ptr (n + 1) 0), (5, ptr (n + 2) 0)])
          (fun j => (n4, ⟨8, bys (fold h.p h.c i g (8 * j)), 34⟩) :: (n + 2, ⟨513, Km, 46⟩) :: (n + 1, ⟨522, Ka, 43⟩) :: (n, ⟨1106, Kh, 40⟩) :: H) (fun _ => True) (by (repeat first | exact trivial | refine And.intro rfl ?_))
          (Drops.keepc rfl rfl (fun _ _ => by rw [show fold h.p h.c i g (8 * 0) = fun _ => 0 from fold_zero _ _ _ _]; rfl) (Drops.refl _ _)) trivial ?_
        intro j n5 hj hn5 _
        (refine zG ?_)
        refine zI ?_ ?_<;>intro h5
        · have hj' : j < N := by omega
          (refine zG ?_)
          refine CS.iter N (fun k => [(12, i64 (k : Nat)), (11, i64 (j : Nat)), (10, ptr n4 0), (9, i64 (y : Nat)), (8, i64 (x : Nat)), (7, i64 (i : Nat)), (3, ptr n 0), (4, ptr (n + 1) 0), (5, ptr (n + 2) 0)])
            (fun k => (n4, ⟨8, bys (fold h.p h.c i g (8 * j + k)), 34⟩) :: (n + 2, ⟨513, Km, 46⟩) :: (n + 1, ⟨522, Ka, 43⟩) :: (n, ⟨1106, Kh, 40⟩) :: H) (fun _ => True) (by (repeat first | exact trivial | refine And.intro rfl ?_))
            (Drops.refl _ _) trivial ?_
          intro k n6 hk hn6 _
          (refine zG ?_)
          refine zI ?_ ?_<;>intro h6
          · have hk' : k < N := by omega
            have hct := hB.c (64 * i + 8 * j + k) (by omega)
            have ect : 64 * i + 8 * j + k = 64 * i + (8 * j + k) := by omega
            (refine zG ?_)
            refine zI ?_ ?_<;>intro h7
            · (repeat first|refine zG ?_|(refine LS.nilO ?_;intro nq hnq hltq;try refine zU ?_)|(refine MS.new ?_;intro bq hbq hbqf;try refine zU ?_)|(refine MS.nil ?_;intro nq hnq hltq;have hlq:=hltq _ _ (Hp.get_eq _ _ _);clear hltq;try refine zU ?_)|(refine LS.nilQ ?_;try with_reducible intro nq hnq;try refine zU ?_))
              refine CS.tailLo _ (List.Mem.head _) ?_; dsimp only [List.take, List.drop]
              (refine zG ?_)
              refine LS.callQ (.arr 8 (bys (g (8 * j + k)))) rfl (fun n' hn' => by
                rw [hg]; unfold mag; rw [show (8 * j + k) / 8 = j by omega, show (8 * j + k) % 8 = k by omega]
                exact spec_l01Times h.p s am (fun z => t (64 * j + 8 * x + z)) (fun z => t (64 * k + 8 * y + z)) Ka _ _ hp hs a0 a1 aM hm (fun z hz => ht _ (by omega)) (fun z hz => ht _ (by omega))) ?_
              (repeat first|refine zG ?_|(refine LS.nilO ?_;intro nq hnq hltq;try refine zU ?_)|(refine MS.new ?_;intro bq hbq hbqf;try refine zU ?_)|(refine MS.nil ?_;intro nq hnq hltq;have hlq:=hltq _ _ (Hp.get_eq _ _ _);clear hltq;try refine zU ?_)|(refine LS.nilQ ?_;try with_reducible intro nq hnq;try refine zU ?_))
              refine RS.call rfl ((spec_l01Add h.p (h.c (64 * i + 8 * j + k)) (fold h.p h.c i g (8 * j + k)) (g (8 * j + k)) _ _ hp ((fold_res hp.1 _ _ _ _ 8).by hp.2) (by rw [hg]; exact (mag_res hp.1 _ _ _ _ _ _ 8).by hp.2) (by omega)).mono ?_)
              rintro r H5 n7 hn7 ⟨rfl, rfl⟩
              (refine zG ?_)
              exact ⟨by omega, by (repeat first | exact trivial | refine And.intro rfl ?_), Drops.keepc rfl rfl (fun q hq => by rw [ect, fold_step]; rfl) (Drops.refl _ _), trivial⟩
            · (refine zG ?_)
              exact ⟨by omega, by (repeat first | exact trivial | refine And.intro rfl ?_), Drops.keepc rfl rfl (fun q hq => by
                rw [ect] at h7; rw [show 8 * j + (k + 1) = 8 * j + k + 1 from rfl, fold_skip h7]) (Drops.refl _ _), trivial⟩
          · obtain rfl : N = k := by omega
            (refine zG ?_)
            exact ⟨by omega, by (repeat first | exact trivial | refine And.intro rfl ?_), Drops.keepc rfl rfl (fun q hq => by rw [fold_row hS.cm (by omega) hN (by omega)]; rfl) (Drops.refl _ _), trivial⟩
        · obtain rfl : N = j := by omega
          have efe : fold h.p h.c i g (8 * N) = fold h.p h.c i g 64 := fold_end hS.cm (by omega) hN
          have eam : apk h.p (fun z => t (64 * i + z)) (fun z => am (64 * x + 8 * y + z)) s = app h.p (fun z => t (64 * i + z)) (fun z => am (64 * x + 8 * y + z)) := apk_more hs (fun z h1 h2 => htm x y z (by omega) (by omega) h2 (.inr (.inr h1)))
          (refine zG ?_)
          refine LS.callQ (.arr 8 (bys (apk h.p (fun z => t (64 * i + z)) (fun z => am (64 * x + 8 * y + z)) s))) rfl (fun n' hn' => spec_l01Apply h.p s (fun z => t (64 * i + z)) (fun z => am (64 * x + 8 * y + z)) _ _ hp hs (fun x hx => ht _ (by omega)) (fun x hx => hm _ (by omega))) ?_
          (repeat first|refine zG ?_|(refine LS.nilO ?_;intro nq hnq hltq;try refine zU ?_)|(refine MS.new ?_;intro bq hbq hbqf;try refine zU ?_)|(refine MS.nil ?_;intro nq hnq hltq;have hlq:=hltq _ _ (Hp.get_eq _ _ _);clear hltq;try refine zU ?_)|(refine LS.nilQ ?_;try with_reducible intro nq hnq;try refine zU ?_))
          refine zI ?_ ?_<;>intro h8
          · (refine zG ?_)
            exact ⟨_, H, rfl, by exact zD, by rw [tb_false (fun q => h8 (fun z hz => by rw [eam, efe, hg]; exact (q i hi').2 x y hx' hy' z hz))], rfl⟩
          · rw [eam, efe, hg] at h8
            (refine zG ?_)
            refine ⟨by omega, by (repeat first | exact trivial | refine And.intro rfl ?_), by exact zD, fun y' hy2 => ?_⟩
            by_cases e : y' = y
            · subst e; exact h8
            · exact hJy y' (by omega)
      · obtain rfl : s = y := by omega
        (refine zG ?_)
        refine ⟨by omega, by (repeat first | exact trivial | refine And.intro rfl ?_), Drops.refl _ _, fun x' y hx2 hy2 => ?_⟩
        by_cases e : x' = x
        · subst e; exact hJy y hy2
        · exact hJx x' y (by omega) hy2
    · obtain rfl : s = x := by omega
      (refine zG ?_)
      refine ⟨by omega, by (repeat first | exact trivial | refine And.intro rfl ?_), Drops.refl _ _, fun i' hi2 => ?_⟩
      by_cases e : i' = i
      · subst e; exact ⟨h2, hJx⟩
      · exact hJ i' (by omega)
  · obtain rfl : N = i := by omega
    (refine zG ?_)
    exact ⟨_, H, rfl, by exact zD, by rw [tb_true (show isMA h N s au am t from hJ)], rfl⟩

end Go.Proofs.YtmkegkpabifpfaaGreat

/- The code of a Hopf algebra, an algebra and a module, and the constants, on the reference's side. -/
namespace Go.V
set_option linter.unusedSimpArgs false
set_option linter.unusedVariables false
/-- 1 if Q does not hold, else 2 if R does not. -/
noncomputable def k8 (Q R : Prop) : Int := if tb Q = true then if tb R = true then 0 else 2 else 1
theorem k8_1 {Q R : Prop} (h : ¬Q) : k8 Q R = 1 := by unfold k8; rw [tb_false h]; rfl
theorem k8_2 {Q R : Prop} (h : Q) (g : ¬R) : k8 Q R = 2 := by unfold k8; rw [tb_true h, tb_false g]; rfl
theorem k8_0 {Q R : Prop} (h : Q) (g : R) : k8 Q R = 0 := by unfold k8; rw [tb_true h, tb_true g]; rfl
/-- And 5 if M does not hold. -/
noncomputable def k9 (Q R M : Prop) : Int := if tb Q = true then if tb R = true then if tb M = true then 0 else 5 else 2 else 1
theorem k9_1 {Q R M : Prop} (h : ¬Q) : k9 Q R M = 1 := by unfold k9; rw [tb_false h]; rfl
theorem k9_2 {Q R M : Prop} (h : Q) (g : ¬R) : k9 Q R M = 2 := by unfold k9; rw [tb_true h, tb_false g]; rfl
theorem k9_5 {Q R M : Prop} (h : Q) (g : R) (f : ¬M) : k9 Q R M = 5 := by unfold k9; rw [tb_true h, tb_true g, tb_false f]; rfl
theorem k9_0 {Q R M : Prop} (h : Q) (g : R) (f : M) : k9 Q R M = 0 := by unfold k9; rw [tb_true h, tb_true g, tb_true f]; rfl
/-- What is asked of a Hopf algebra, an algebra and a module. -/
def q8 (h : HT) (ap an d : Int) (au am t : Nat → Int) : Prop := isHopf h ∧ isAlg ap an au am ∧ isModule h h.N d t
def r8 (h : HT) (ap an d : Int) : Prop := h.p = ap ∧ d = an
end Go.V
namespace Go.Proofs.YtmkegkpabifpfaaGreat
open Go.V
set_option linter.unusedSimpArgs false
set_option linter.unusedVariables false
set_option maxHeartbeats 4000000

/-- spec.l08Code -/
def ir12 : Cd := (.seq (.reg [⟨some 3,none,.box 40 (.t 0)⟩,⟨some 4,none,.box 43 (.t 1)⟩,⟨some 5,none,.box 46 (.t 2)⟩,⟨some 6,none,.mov (.c (.int .i64 0))⟩]) (.seq (.block 0 (.seq (.reg [⟨some 8,none,.ld (some 1106) (.t 3)⟩,⟨some 9,none,.call 22 [(.t 8)]⟩,⟨some 10,none,.un .not (.t 9)⟩,⟨some 11,none,.mov (.t 10)⟩,⟨some 12,(some (11,false)),.ld (some 522) (.t 4)⟩,⟨some 13,(some (11,false)),.call 23 [(.t 12)]⟩,⟨some 14,(some (11,false)),.un .not (.t 13)⟩,⟨some 15,none,.pick (.t 11) (.c (.bool true)) (.t 14)⟩,⟨some 16,none,.mov (.t 15)⟩,⟨some 17,(some (16,false)),.ld (some 1106) (.t 3)⟩,⟨some 18,(some (16,false)),.ld (some 513) (.t 5)⟩,⟨some 19,(some (16,false)),.call 24 [(.t 17),(.t 18)]⟩,⟨some 20,(some (16,false)),.un .not (.t 19)⟩,⟨some 21,none,.pick (.t 16) (.c (.bool true)) (.t 20)⟩,⟨some 7,none,.mov (.t 21)⟩]) (.cond (.t 7) (.seq (.reg [⟨some 6,none,.mov (.c (.int .i64 1))⟩]) .ret) (.seq (.reg [⟨some 23,none,.fa 0 (.t 3)⟩,⟨some 24,none,.ld none (.t 23)⟩,⟨some 25,none,.fa 0 (.t 4)⟩,⟨some 26,none,.ld none (.t 25)⟩,⟨some 27,none,.bin .neq (.t 24) (.t 26)⟩,⟨some 28,none,.mov (.t 27)⟩,⟨some 29,(some (28,false)),.fa 0 (.t 5)⟩,⟨some 30,(some (28,false)),.ld none (.t 29)⟩,⟨some 31,(some (28,false)),.fa 1 (.t 4)⟩,⟨some 32,(some (28,false)),.ld none (.t 31)⟩,⟨some 33,(some (28,false)),.bin .neq (.t 30) (.t 32)⟩,⟨some 34,none,.pick (.t 28) (.c (.bool true)) (.t 33)⟩,⟨some 22,none,.mov (.t 34)⟩]) (.cond (.t 22) (.seq (.reg [⟨some 6,none,.mov (.c (.int .i64 2))⟩]) .ret) .skip))))) (.seq (.reg [⟨some 6,none,.mov (.c (.int .i64 0))⟩]) .ret)))
set_option maxRecDepth 100000 in
theorem tr12 : trFn Tryz.prog Tryz.f12 = some (35, ir12, [.tmp 6]) := by kernel_rfl

theorem spec_l08Code (h : HT) (ap an d : Int) (au am t : Nat → Int) (Kh Ka Km : Nat → SV) (H : Hp) (n : Nat) (hK : h.At Kh) (hB : h.By) (hA : AAt ap an au am Ka) (hu : isBy 8 au) (hm : isBy 512 am) (kd : Km 0 = .int .i64 d) (cm : ∀ q, q < 512 → Km (1 + q) = .int .u8 (t q)) (ht : isBy 512 t) :
    FnS Tryz.prog 12 [.arr 1106 Kh, .arr 522 Ka, .arr 513 Km] H n (fun r H' _ => r = i64 (k8 (q8 h ap an d au am t) (r8 h ap an d)) ∧ H' = H) := by
  have hk0 := hK.p
  have hk1 := hK.n
  obtain ⟨a0, a1, aU, aM⟩ := hA
  have a1' : Ka (0 + 1) = .int .i64 an := a1
  refine FnS.of_body Tryz.func12 tr12 (by simp) (fun hf => ?_)
  dsimp only [argEnv]
  unfold ir12
  (refine zG ?_)
  refine RS.call rfl ((FnS.args (concs_cons (conc_arr (fun q hq => rfl)) rfl) (spec_l03Is h Kh _ _ hK hB)).mono ?_)
  rintro r H' n2 hn2 ⟨rfl, rfl⟩
  (refine zG ?_)
  refine RS.sp (t := 11) rfl (fun h1 => ?_) (fun h1 => ?_) <;> (try simp only [tb_eq, tb_eqF, decide_eq_true_eq, decide_eq_false_iff_not, beq_iff_eq, bne_iff_ne, ne_eq, Decidable.not_not, beq_eq_false_iff_ne, bne_eq_false_iff_eq, Bool.not_eq_true', Bool.not_eq_false', Bool.not_eq_eq_eq_not, Bool.not_true, Bool.not_false] at h1)
  · (refine zG ?_)
    exact ⟨_, H, rfl, by exact zD, by rw [k8_1 (fun q => h1 q.1)], rfl⟩
  obtain ⟨N, hS⟩ := h1.1.hs
  (refine zG ?_)
  refine RS.call rfl ((FnS.args (concs_cons (conc_arr (fun q hq => rfl)) rfl) (spec_l01Is ap an au am Ka _ _ a0 a1 aU aM hu hm)).mono ?_)
  rintro r H' n3 hn3 ⟨rfl, rfl⟩
  (refine zG ?_)
  refine RS.sp (t := 16) rfl (fun h2 => ?_) (fun h2 => ?_) <;> (try simp only [tb_eq, tb_eqF, decide_eq_true_eq, decide_eq_false_iff_not, beq_iff_eq, bne_iff_ne, ne_eq, Decidable.not_not, beq_eq_false_iff_ne, bne_eq_false_iff_eq, Bool.not_eq_true', Bool.not_eq_false', Bool.not_eq_eq_eq_not, Bool.not_true, Bool.not_false] at h2)
  · (refine zG ?_)
    exact ⟨_, H, rfl, by exact zD, by rw [k8_1 (fun q => h2 q.2.1)], rfl⟩
  (refine zG ?_)
  refine RS.call rfl ((spec_l06Holds h N d t Kh Km _ _ hS hK hB kd cm ht).mono ?_)
  rintro r H' n4 hn4 ⟨rfl, rfl⟩
  rw [← hS.N]
  (refine zG ?_)
  refine zI ?_ ?_<;>intro h3
  · (refine zG ?_)
    exact ⟨_, H, rfl, by exact zD, by rw [k8_1 (fun q => h3 q.2.2)], rfl⟩
  (refine zG ?_)
  refine RS.sp (t := 28) rfl (fun h4 => ?_) (fun h4 => ?_) <;> (try simp only [tb_eq, tb_eqF, decide_eq_true_eq, decide_eq_false_iff_not, beq_iff_eq, bne_iff_ne, ne_eq, Decidable.not_not, beq_eq_false_iff_ne, bne_eq_false_iff_eq, Bool.not_eq_true', Bool.not_eq_false', Bool.not_eq_eq_eq_not, Bool.not_true, Bool.not_false] at h4)
  · (refine zG ?_)
    exact ⟨_, H, rfl, by exact zD, by rw [k8_2 ⟨h1, h2, h3⟩ (fun q => h4 q.1)], rfl⟩
  (refine zG ?_)
  refine zI ?_ ?_<;>intro h5
  · (refine zG ?_)
    exact ⟨_, H, rfl, by exact zD, by rw [k8_2 ⟨h1, h2, h3⟩ (fun q => h5 q.2)], rfl⟩
  (refine zG ?_)
  exact ⟨_, H, rfl, by exact zD, by rw [k8_0 ⟨h1, h2, h3⟩ ⟨h4, h5⟩], rfl⟩

/-- spec.ConstantsOf -/
def ir4 : Cd := (.seq (.reg [⟨some 3,none,.box 40 (.t 0)⟩,⟨some 4,none,.box 43 (.t 1)⟩,⟨some 5,none,.box 46 (.t 2)⟩,⟨some 6,none,.mov (.c .nils)⟩,⟨some 7,none,.mov (.c (.int .i64 0))⟩]) (.seq (.seq (.reg [⟨some 9,none,.ld (some 1106) (.t 3)⟩,⟨some 10,none,.ld (some 522) (.t 4)⟩,⟨some 11,none,.ld (some 513) (.t 5)⟩,⟨some 12,none,.call 12 [(.t 9),(.t 10),(.t 11)]⟩,⟨some 8,none,.mov (.t 12)⟩]) (.seq (.reg [⟨some 13,none,.mov (.t 8)⟩,⟨some 14,none,.bin .neq (.t 13) (.c (.int .i64 0))⟩]) (.cond (.t 14) (.seq (.reg [⟨some 15,none,.mov (.t 8)⟩,⟨some 6,none,.mov (.c .nils)⟩,⟨some 7,none,.mov (.t 15)⟩]) .ret) .skip))) (.seq (.seq (.reg [⟨some 16,none,.ld (some 1106) (.t 3)⟩,⟨some 17,none,.ld (some 522) (.t 4)⟩,⟨some 18,none,.ld (some 513) (.t 5)⟩,⟨some 19,none,.call 13 [(.t 16),(.t 17),(.t 18)]⟩,⟨some 20,none,.un .not (.t 19)⟩]) (.cond (.t 20) (.seq (.reg [⟨some 6,none,.mov (.c .nils)⟩,⟨some 7,none,.mov (.c (.int .i64 5))⟩]) .ret) .skip)) (.seq (.reg [⟨some 21,none,.ld (some 1106) (.t 3)⟩,⟨some 22,none,.ld (some 513) (.t 5)⟩,⟨some 23,none,.call 14 [(.t 21),(.t 22)]⟩,⟨some 6,none,.mov (.t 23)⟩,⟨some 7,none,.mov (.c (.int .i64 0))⟩]) .ret))))
set_option maxRecDepth 100000 in
theorem tr4 : trFn Tryz.prog Tryz.f4 = some (24, ir4, [.tmp 6, .tmp 7]) := by kernel_rfl

theorem spec_ConstantsOf (h : HT) (ap an d : Int) (au am t : Nat → Int) (Kh Ka Km : Nat → SV) (H : Hp) (n : Nat) (hK : h.At Kh) (hB : h.By) (hA : AAt ap an au am Ka) (hu : isBy 8 au) (hm : isBy 512 am) (kd : Km 0 = .int .i64 d) (cm : ∀ q, q < 512 → Km (1 + q) = .int .u8 (t q)) (ht : isBy 512 t) :
    FnS Tryz.prog 4 [.arr 1106 Kh, .arr 522 Ka, .arr 513 Km] H n (fun r H' n' =>
      (¬(q8 h ap an d au am t ∧ r8 h ap an d ∧ isMA h h.N d.toNat au am t) ∧ r = .tup [.s .nils, i64 (k9 (q8 h ap an d au am t) (r8 h ap an d) (isMA h h.N d.toNat au am t))] ∧ H' = H) ∨
      ((q8 h ap an d au am t ∧ r8 h ap an d ∧ isMA h h.N d.toNat au am t) ∧ ∃ sv' A' d' P' b' A dd P, r = .tup [.s sv', i64 0] ∧ VL H' sv' d' A' b' ∧ RR h.p A' d' P' ∧ same h.p A' d' (krn h.p A P dd d.toNat) (fre P dd d.toNat) ∧ RR h.p A dd P ∧ same h.p A dd (zc d.toNat (krw h.p d.toNat (ivf d.toNat t h.e))) (h.N * d.toNat) ∧ n ≤ b' ∧ b' < n' ∧ (∀ x, n' ≤ x → H'.get x = none) ∧ ∀ x, x < n → H'.get x = H.get x)) := by
  have hk0 := hK.p
  have hk1 := hK.n
  refine FnS.of_body Tryz.func4 tr4 (by simp) (fun hf => ?_)
  dsimp only [argEnv]
  unfold ir4
  (refine zG ?_)
  refine RS.call rfl ((FnS.args (concs_cons (conc_arr (fun q hq => rfl)) (concs_cons (conc_arr (fun q hq => rfl)) (concs_cons (conc_arr (fun q hq => rfl)) rfl))) (spec_l08Code h ap an d au am t Kh Ka Km _ _ hK hB hA hu hm kd cm ht)).mono ?_)
  rintro r H' n2 hn2 ⟨rfl, rfl⟩
  by_cases hq : q8 h ap an d au am t
  · by_cases hr : r8 h ap an d
    · obtain ⟨rfl, rfl⟩ := hr
      rw [k8_0 hq ⟨rfl, rfl⟩]
      obtain ⟨N, hS⟩ := hq.1.1.hs
      have hd := hq.2.2.1.1
      obtain ⟨s, rfl⟩ := Int.eq_ofNat_of_zero_le (show 0 ≤ d by omega)
      have hA1 := hq.2.1.1
      have hisP : isP h.p = true := hA1.1.1
      rw [show ((s : Nat) : Int).toNat = s from rfl]
      (refine zG ?_)
      refine RS.call rfl ((FnS.args (concs_cons (conc_arr (fun q hq => rfl)) (concs_cons (conc_arr (fun q hq => rfl)) (concs_cons (conc_arr (fun q hq => rfl)) rfl))) (spec_l08Algebra h N s au am t Kh Ka Km _ _ hS hK hB (by omega) hA hu hm hA1.2.1.vz hA1.2.2.tz kd cm ht)).mono ?_)
      rintro r H' n3 hn3 ⟨rfl, rfl⟩
      rw [← hS.N]
      (refine zG ?_)
      refine zI ?_ ?_<;>intro h1
      · (refine zG ?_)
        exact ⟨_, H, rfl, by exact zD, .inl ⟨fun q => h1 q.2.2, by rw [k9_5 hq ⟨rfl, rfl⟩ h1], rfl⟩⟩
      · have ht0 := hS.hn
        (refine zG ?_)
        refine RS.call rfl ((FnS.args (concs_cons (conc_arr (fun q hq => rfl)) (concs_cons (conc_arr (fun q hq => rfl)) rfl)) (spec_l06Invariants h.p s N t h.e Kh Km _ _ hisP (by omega) (by omega) hS.ha1 hS.ha hk0 (by rw [hk1, hS.hn]) hK.e kd cm ht hB.e)).mono ?_)
        rintro r H3 n4 hn4 ⟨sv', A', d', P', b', A, dd, P, rfl, hV', hR', hsm', hRR, hsm, hb', hb'n, hfr', hlow'⟩
        rw [← hS.N] at hsm
        (refine zG ?_)
        exact ⟨.tup [.s sv', i64 0], H3, rfl, Drops.refl _ _, .inr ⟨⟨hq, ⟨rfl, rfl⟩, h1⟩, sv', A', d', P', b', A, dd, P, rfl, hV', hR', hsm', hRR, hsm, by omega, by omega, fun x hx => hfr' x (by omega), fun x hx => by rw [hlow' x (by omega), Hp.get_ne _ _ (by omega), Hp.get_ne _ _ (by omega), Hp.get_ne _ _ (by omega)]⟩⟩
    · rw [k8_2 hq hr]
      (refine zG ?_)
      exact ⟨_, H, rfl, by exact zD, .inl ⟨fun q => hr q.2.1, by rw [k9_2 hq hr], rfl⟩⟩
  · rw [k8_1 hq]
    (refine zG ?_)
    exact ⟨_, H, rfl, by exact zD, .inl ⟨fun q => hq q.1, by rw [k9_1 hq], rfl⟩⟩

end Go.Proofs.YtmkegkpabifpfaaGreat
