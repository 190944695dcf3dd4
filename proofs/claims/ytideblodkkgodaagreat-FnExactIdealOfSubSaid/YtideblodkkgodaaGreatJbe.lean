/- Contracts of the program's functions. -/
import Derived.Test.YtideblodkkgodaaGreatJam
import Derived.Test.YtideblodkkgodaaGreatJal
import Derived.Test.YtideblodkkgodaaGreatJax
import Derived.Test.YtideblodkkgodaaGreatJba
import Derived.Test.YtideblodkkgodaaGreatJbb
set_option linter.unusedSectionVars false
set_option linter.unusedVariables false
set_option linter.unusedSimpArgs false

namespace Go.Proofs.YtideblodkkgodaaGreat

open Go.V

variable [BW]

set_option linter.unusedSimpArgs false

set_option linter.unusedVariables false

set_option maxHeartbeats 4000000

/-- impl.IsAlgebra -/
def ir87 : Cd := (.seq (.reg [⟨some 1,none,.box 52 (.t 0)⟩,⟨some 2,none,.mov (.c (.bool false))⟩]) (.seq (.seq (.reg [⟨some 5,none,.call 82 [(.t 1)]⟩,⟨some 6,none,.un .not (.t 5)⟩]) (.cond (.t 6) (.seq (.reg [⟨some 2,none,.mov (.c (.bool false))⟩]) .ret) .skip)) (.seq (.seq (.reg [⟨some 7,none,.fa 1 (.t 1)⟩,⟨some 8,none,.ld none (.t 7)⟩,⟨some 9,none,.mov (.c (.int .i64 0))⟩]) (.block 0 (.loop (.seq (.reg [⟨some 10,none,.bin .lss (.t 9) (.t 8)⟩]) (.seq (.cond (.t 10) .skip (.exit 0)) (.seq (.block 1 (.seq (.reg [⟨some 11,none,.mov (.t 9)⟩,⟨some 3,none,.mov (.t 11)⟩]) (.seq (.reg [⟨some 12,none,.mov (.t 3)⟩,⟨some 13,none,.call 33 [(.t 12)]⟩,⟨some 4,none,.new 32 [(8,(.int .u8 0))]⟩,⟨none,none,.st 8 (.t 4) (.t 13)⟩]) (.seq (.drw true [] [⟨some 14,none,.fa 2 (.t 1)⟩,⟨some 15,none,.ld (some 8) (.t 14)⟩,⟨some 16,none,.ld (some 8) (.t 4)⟩,⟨some 17,none,.call 117 [(.t 1),(.t 15),(.t 16)]⟩,⟨some 18,none,.ld (some 8) (.t 4)⟩,⟨some 19,none,.eqa true 8 (.t 17) (.t 18)⟩,⟨some 20,none,.mov (.t 19)⟩,⟨some 21,(some (20,false)),.ld (some 8) (.t 4)⟩,⟨some 22,(some (20,false)),.fa 2 (.t 1)⟩,⟨some 23,(some (20,false)),.ld (some 8) (.t 22)⟩,⟨some 24,(some (20,false)),.call 117 [(.t 1),(.t 21),(.t 23)]⟩,⟨some 25,(some (20,false)),.ld (some 8) (.t 4)⟩,⟨some 26,(some (20,false)),.eqa true 8 (.t 24) (.t 25)⟩,⟨some 27,none,.pick (.t 20) (.c (.bool true)) (.t 26)⟩]) (.cond (.t 27) (.seq (.reg [⟨some 2,none,.mov (.c (.bool false))⟩]) .ret) .skip))))) (.reg [⟨some 28,none,.bin .add (.t 9) (.c (.int .i64 1))⟩,⟨some 9,none,.mov (.t 28)⟩]))))))) (.seq (.reg [⟨some 29,none,.call 118 [(.t 1)]⟩,⟨some 30,none,.snil false (.t 29)⟩,⟨some 2,none,.mov (.t 30)⟩]) .ret))))

set_option maxRecDepth 100000 in
theorem tr87 : trFn Tryz.prog Tryz.f87 = some (31, ir87, [.tmp 2]) := by kernel_rfl

theorem impl_IsAlgebra (p n' : Int) (u m : Nat → Int) (K : Nat → SV) (H : Hp) (n : Nat) (h0 : K 0 = .int .i64 p) (h1 : K 1 = .int .i64 n')
    (hU : ∀ q, q < 8 → K (2 + q) = .int .u8 (u q)) (hK : ∀ q, q < 512 → K (10 + q) = .int .u8 (m q)) (hu : isBy 8 u) (hm : isBy 512 m) :
    FnS Tryz.prog 87 [.arr 522 K] H n (fun v H' _ => v = bl (tb (isAlg p n' u m)) ∧ H' = H) := by
  refine FnS.of_body Tryz.func87 tr87 (by simp) (fun hf => ?_)
  dsimp only [argEnv]
  unfold ir87
  (refine zG ?_)
  refine RS.call rfl ((Algebra_isShaped p n' u m n _ _ _ (by exact zH) rfl h0 h1 hU hK hu hm).mono ?_)
  rintro r H n2 hn2 ⟨rfl, rfl⟩
  (refine zG ?_)
  refine zI ?_ ?_<;>intro h2
  · (refine zG ?_)
    exact ⟨_, H, rfl, by exact zD, by rw [tb_false (fun h => h2 h.1)], rfl⟩
  · obtain ⟨hz1, hz2, hz3⟩ := h2.1
    obtain ⟨a, rfl⟩ := Int.eq_ofNat_of_zero_le (show 0 ≤ n' by omega)
    have hp := isP_le hz1
    have ha : a ≤ 8 := by omega
    (refine zG ?_)
    refine CS.iter a (fun i => [(9, i64 i), (8, i64 a), (1, ptr n 0)]) (fun _ => (n, ⟨522, K, 52⟩) :: H)
      (fun i => ∀ i' : Nat, i' < i → (∀ q, q < 8 → pr p m u (bas i') a q = bas i' q) ∧ (∀ q, q < 8 → pr p m (bas i') u a q = bas i' q)) (by (repeat first | exact trivial | refine And.intro rfl ?_)) (Drops.refl _ _) (fun _ h => by omega) ?_
    intro i n3 hi hn hJ
    (refine zG ?_)
    refine zI ?_ ?_<;>intro h3
    · (refine zG ?_)
      refine RS.call rfl ((impl_basis i _ _ (by omega)).mono ?_)
      rintro r H n4 hn4 ⟨rfl, rfl⟩
      (refine zG ?_)
      refine LS.callQ (.arr 8 (bys (pr p m u (bas i) a))) rfl (fun n' hn' => Algebra_product p a m u (bas i) n _ _ _ hp ha (by exact zH) rfl h0 h1 hK hm hu (bas_by _ _)) ?_
      (refine zG ?_)
      refine RS.sp (t := 20) rfl (fun h4 => ?_) (fun h4 => ?_) <;> (try simp only [tb_eq, tb_eqF, decide_eq_true_eq, decide_eq_false_iff_not, beq_iff_eq, bne_iff_ne, ne_eq, Decidable.not_not, beq_eq_false_iff_ne, bne_eq_false_iff_eq, Bool.not_eq_true', Bool.not_eq_false', Bool.not_eq_eq_eq_not, Bool.not_true, Bool.not_false] at h4)
      · (repeat first|refine zG ?_|(refine LS.nilO ?_;intro nq hnq hltq;try refine zU ?_)|(refine MS.new ?_;intro bq hbq hbqf;try refine zU ?_)|(refine MS.nil ?_;intro nq hnq hltq;have hlq:=hltq _ _ (Hp.get_eq _ _ _);clear hltq;try refine zU ?_)|(refine LS.nilQ ?_;try with_reducible intro nq hnq;try refine zU ?_))
        exact ⟨_, H, rfl, by exact zD, by rw [tb_false (fun h => h4 (h.2.1 i (by omega)).1)], rfl⟩
      · (refine zG ?_)
        refine LS.callQ (.arr 8 (bys (pr p m (bas i) u a))) rfl (fun n' hn' => Algebra_product p a m (bas i) u n _ _ _ hp ha (by exact zH) rfl h0 h1 hK hm (bas_by _ _) hu) ?_
        (repeat first|refine zG ?_|(refine LS.nilO ?_;intro nq hnq hltq;try refine zU ?_)|(refine MS.new ?_;intro bq hbq hbqf;try refine zU ?_)|(refine MS.nil ?_;intro nq hnq hltq;have hlq:=hltq _ _ (Hp.get_eq _ _ _);clear hltq;try refine zU ?_)|(refine LS.nilQ ?_;try with_reducible intro nq hnq;try refine zU ?_))
        refine zI ?_ ?_<;>intro h5
        · (refine zG ?_)
          exact ⟨_, H, rfl, by exact zD, by rw [tb_false (fun h => h5 (h.2.1 i (by omega)).2)], rfl⟩
        · (refine zG ?_)
          refine ⟨by omega, by (repeat first | exact trivial | refine And.intro rfl ?_), by exact zD, fun i' hi' => ?_⟩
          by_cases e : i' = i
          · subst e; exact ⟨h4, h5⟩
          · exact hJ i' (by omega)
    · have : i = a := by omega
      subst this
      (refine zG ?_)
      refine RS.call rfl ((Algebra_fault p i m n _ _ _ hp ha (by exact zH) rfl h0 h1 hK hm).mono ?_)
      rintro r H n4 hn4 ⟨⟨rfl, h6⟩ | ⟨⟨b1, o1, l1, c1, rfl⟩, h6⟩, rfl⟩
      · (refine zG ?_)
        exact ⟨_, H, rfl, by exact zD, by rw [tb_true (isAlg_nat.2 ⟨h2, fun i' h => hJ i' h, h6⟩)]; rfl, rfl⟩
      · (refine zG ?_)
        exact ⟨_, H, rfl, by exact zD, by rw [tb_false (fun h => h6 h.2.2)], rfl⟩

/-- (*impl.Hopf).axiomS -/
def ir94 : Cd := (.seq (.reg [⟨some 4,none,.mov (.c (.bool false))⟩]) (.seq (.reg [⟨some 7,none,.mov (.t 0)⟩,⟨some 8,none,.call 28 [(.t 7)]⟩,⟨some 5,none,.new 62 [(2,(.int .i64 0))]⟩,⟨none,none,.st 2 (.t 5) (.t 8)⟩]) (.seq (.seq (.reg [⟨some 9,none,.fa 1 (.t 5)⟩,⟨some 10,none,.ld none (.t 9)⟩,⟨some 11,none,.mov (.c (.int .i64 0))⟩]) (.block 0 (.loop (.seq (.reg [⟨some 12,none,.bin .lss (.t 11) (.t 10)⟩]) (.seq (.cond (.t 12) .skip (.exit 0)) (.seq (.block 1 (.seq (.reg [⟨some 13,none,.mov (.t 11)⟩,⟨some 6,none,.mov (.t 13)⟩]) (.seq (.drw true [16] [⟨some 14,none,.mov (.t 0)⟩,⟨some 15,none,.mov (.t 6)⟩,⟨some 16,none,.mov (.t 1)⟩,⟨some 17,none,.call 123 [(.t 14),(.t 15),(.t 16)]⟩,⟨some 18,none,.ld (some 2) (.t 5)⟩,⟨some 19,none,.mov (.t 0)⟩,⟨some 20,none,.mov (.t 6)⟩,⟨some 21,none,.ck (.t 19)⟩,⟨some 22,none,.fa 522 (.t 21)⟩,⟨some 23,none,.ia 8 1 (.t 22) (.t 20)⟩,⟨some 24,none,.ld none (.t 23)⟩,⟨some 25,none,.cv .i64 (.t 24)⟩,⟨some 26,none,.mov (.t 0)⟩,⟨some 27,none,.ck (.t 26)⟩,⟨some 28,none,.fa 2 (.t 27)⟩,⟨some 29,none,.ld (some 8) (.t 28)⟩,⟨some 30,none,.call 124 [(.t 18),(.t 25),(.t 29)]⟩,⟨some 31,none,.eqa true 8 (.t 17) (.t 30)⟩]) (.cond (.t 31) (.seq (.reg [⟨some 4,none,.mov (.c (.bool false))⟩]) .ret) .skip)))) (.reg [⟨some 32,none,.bin .add (.t 11) (.c (.int .i64 1))⟩,⟨some 11,none,.mov (.t 32)⟩]))))))) (.seq (.reg [⟨some 4,none,.mov (.c (.bool true))⟩]) .ret))))

set_option maxRecDepth 100000 in
theorem tr94 : trFn Tryz.prog Tryz.f94 = some (33, ir94, [.tmp 4]) := by kernel_rfl

theorem Hopf_axiomS (h : HT) (a : Nat) (fp : Bool) (g : Nat → Nat → Int) (hg : g = if fp = true then g6 h.p h.m h.s a else g7 h.p h.m h.s a)
    (b : Nat) (K : Blk) (H : Hp) (n : Nat) (hS : HS h a) (hb : H.get b = some K) (hsz : K.size = 1106) (hK : h.At K.c) (hB : h.By) :
    FnS Tryz.prog 94 [ptr b 0, bl fp] H n (fun r H' _ => r = bl (tb (∀ i : Nat, i < a → ∀ q, q < 8 → fold h.p h.c i g 64 q = pl h.p (fun _ => 0) (h.e i) h.u q)) ∧ H' = H) := by
  have hp := hS.hp
  have ha := hS.ha
  have hk1 := hK.n
  rw [hS.hn] at hk1
  have hk6 := hK.e
  have hk7 := hK.u
  refine FnS.of_body Tryz.func94 tr94 (by simp) (fun hf => ?_)
  dsimp only [argEnv]
  unfold ir94
  have hbn := getlt hf hb
  (refine zG ?_)
  refine RS.call rfl ((Hopf_field h.p a b K _ _ (by exact zH) hsz hK.p hk1 (by omega)).mono ?_)
  rintro r H n2 hn2 ⟨rfl, rfl⟩
  (refine zG ?_)
  refine CS.iter a (fun i => [(11, i64 i), (10, i64 a), (5, ptr n2 0), (1, bl fp), (0, ptr b 0)]) (fun _ => (n2, ⟨2, fldC h.p a, 62⟩) :: H)
    (fun i => ∀ i' : Nat, i' < i → ∀ q, q < 8 → fold h.p h.c i' g 64 q = pl h.p (fun _ => 0) (h.e i') h.u q) (by (repeat first | exact trivial | refine And.intro rfl ?_)) (by exact zD) (fun _ h => by omega) ?_
  intro i n1 hi hn hJ
  (refine zG ?_)
  refine zI ?_ ?_<;>intro h2
  · have hei := hB.e i (by omega)
    (refine zG ?_)
    refine LS.callQ (.arr 8 (bys (fold h.p h.c i g 64))) rfl (fun n' hn' => Hopf_folded h a i fp g hg (by omega) b K _ _ hS (by exact zH) hsz hK hB) ?_
    (repeat first|refine zG ?_|(refine LS.nilO ?_;intro nq hnq hltq;try refine zU ?_)|(refine MS.new ?_;intro bq hbq hbqf;try refine zU ?_)|(refine MS.nil ?_;intro nq hnq hltq;have hlq:=hltq _ _ (Hp.get_eq _ _ _);clear hltq;try refine zU ?_)|(refine LS.nilQ ?_;try with_reducible intro nq hnq;try refine zU ?_))
    refine RS.call rfl ((field_times h.p a (h.e i) h.u _ _ hp hB.u (by omega)).mono ?_)
    rintro r H4 n3 hn3 ⟨rfl, rfl⟩
    (refine zG ?_)
    refine zI ?_ ?_<;>intro h4
    · (refine zG ?_)
      exact ⟨_, H, rfl, by exact zD, by rw [tb_false (fun q => h4 (q i (by omega)))], rfl⟩
    · (refine zG ?_)
      refine ⟨by omega, by (repeat first | exact trivial | refine And.intro rfl ?_), by exact zD, fun j' hj' => ?_⟩
      by_cases e : j' = i
      · subst e; exact h4
      · exact hJ j' (by omega)
  · have : i = a := by omega
    subst this
    (refine zG ?_)
    exact ⟨_, H, rfl, by exact zD, by rw [tb_true hJ], rfl⟩

end Go.Proofs.YtideblodkkgodaaGreat
