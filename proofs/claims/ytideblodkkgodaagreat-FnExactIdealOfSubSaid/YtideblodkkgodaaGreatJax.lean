/- Contracts of the program's functions. -/
import Derived.Test.YtideblodkkgodaaGreatJam
import Derived.Test.YtideblodkkgodaaGreatJal
import Derived.Test.YtideblodkkgodaaGreatJau
import Derived.Test.YtideblodkkgodaaGreatJav
import Derived.Test.YtideblodkkgodaaGreatJaw
set_option linter.unusedSectionVars false
set_option linter.unusedVariables false
set_option linter.unusedSimpArgs false

namespace Go.Proofs.YtideblodkkgodaaGreat

open Go.V

variable [BW]

set_option linter.unusedSimpArgs false

set_option linter.unusedVariables false

set_option maxHeartbeats 4000000

/-- spec.l01Shape -/
def ir75 : Cd := (.seq (.reg [⟨some 1,none,.box 52 (.t 0)⟩,⟨some 2,none,.mov (.c (.bool false))⟩]) (.seq (.reg [⟨some 3,none,.fa 0 (.t 1)⟩,⟨some 4,none,.ld none (.t 3)⟩,⟨some 5,none,.fa 1 (.t 1)⟩,⟨some 6,none,.ld none (.t 5)⟩,⟨some 7,none,.call 108 [(.t 4),(.t 6)]⟩,⟨some 8,none,.mov (.t 7)⟩,⟨some 9,(some (8,true)),.fa 0 (.t 1)⟩,⟨some 10,(some (8,true)),.ld none (.t 9)⟩,⟨some 11,(some (8,true)),.fa 1 (.t 1)⟩,⟨some 12,(some (8,true)),.ld none (.t 11)⟩,⟨some 13,(some (8,true)),.fa 2 (.t 1)⟩,⟨some 14,(some (8,true)),.ld (some 8) (.t 13)⟩,⟨some 15,(some (8,true)),.call 36 [(.t 10),(.t 12),(.t 14)]⟩,⟨some 16,none,.pick (.t 8) (.t 15) (.c (.bool false))⟩,⟨some 17,none,.mov (.t 16)⟩,⟨some 18,(some (17,true)),.fa 0 (.t 1)⟩,⟨some 19,(some (17,true)),.ld none (.t 18)⟩,⟨some 20,(some (17,true)),.fa 1 (.t 1)⟩,⟨some 21,(some (17,true)),.ld none (.t 20)⟩,⟨some 22,(some (17,true)),.fa 10 (.t 1)⟩,⟨some 23,(some (17,true)),.ld (some 512) (.t 22)⟩,⟨some 24,(some (17,true)),.call 76 [(.t 19),(.t 21),(.t 23)]⟩,⟨some 25,none,.pick (.t 17) (.t 24) (.c (.bool false))⟩,⟨some 2,none,.mov (.t 25)⟩]) .ret))

set_option maxRecDepth 100000 in
theorem tr75 : trFn Tryz.prog Tryz.f75 = some (26, ir75, [.tmp 2]) := by kernel_rfl

theorem spec_l01Shape (p n' : Int) (u m : Nat → Int) (K : Nat → SV) (H : Hp) (n : Nat) (h0 : K 0 = .int .i64 p) (h1 : K 1 = .int .i64 n')
    (hU : ∀ q, q < 8 → K (2 + q) = .int .u8 (u q)) (hK : ∀ q, q < 512 → K (10 + q) = .int .u8 (m q)) (hu : isBy 8 u) (hm : isBy 512 m) :
    FnS Tryz.prog 75 [.arr 522 K] H n (fun v H' _ => v = bl (tb (shp p n' u m)) ∧ H' = H) := by
  refine FnS.of_body Tryz.func75 tr75 (by simp) (fun hf => ?_)
  dsimp only [argEnv]
  unfold ir75
  (refine zG ?_)
  refine RS.call rfl ((spec_l01Sizes _ _ _ _).mono ?_)
  rintro r H' n2 hn2 ⟨rfl, rfl⟩
  (refine zG ?_)
  refine RS.sp (t := 8) rfl (fun h2 => ?_) (fun h2 => ?_) <;> (try simp only [tb_eq, tb_eqF, decide_eq_true_eq, decide_eq_false_iff_not, beq_iff_eq, bne_iff_ne, ne_eq, Decidable.not_not, beq_eq_false_iff_ne, bne_eq_false_iff_eq, Bool.not_eq_true', Bool.not_eq_false', Bool.not_eq_eq_eq_not, Bool.not_true, Bool.not_false] at h2)
  · (refine zG ?_)
    refine RS.call rfl ((spec_l01Vector p n' u _ _ hu).mono ?_)
    rintro r H' n3 hn3 ⟨rfl, rfl⟩
    (refine zG ?_)
    refine RS.sp (t := 17) rfl (fun h3 => ?_) (fun h3 => ?_) <;> (try simp only [tb_eq, tb_eqF, decide_eq_true_eq, decide_eq_false_iff_not, beq_iff_eq, bne_iff_ne, ne_eq, Decidable.not_not, beq_eq_false_iff_ne, bne_eq_false_iff_eq, Bool.not_eq_true', Bool.not_eq_false', Bool.not_eq_eq_eq_not, Bool.not_true, Bool.not_false] at h3)
    · (refine zG ?_)
      refine RS.call rfl ((spec_l01Table p n' m _ _ hm).mono ?_)
      rintro r H' n4 hn4 ⟨rfl, rfl⟩
      (refine zG ?_)
      exact ⟨_, H, rfl, by exact zD, congrArg bl (tb_iff ⟨fun h => ⟨h2, h3, h⟩, fun h => h.2.2⟩), rfl⟩
    · (refine zG ?_)
      exact ⟨_, H, rfl, by exact zD, by rw [tb_false (fun h => h3 h.2.1)], rfl⟩
  · (refine zG ?_)
    exact ⟨_, H, rfl, by exact zD, by rw [tb_false (fun h => h2 h.1)], rfl⟩

/-- (*impl.Algebra).fault -/
def ir118 : Cd := (.seq (.reg [⟨some 2,none,.mov (.c .nils)⟩]) (.seq (.reg [⟨some 7,none,.mov (.t 0)⟩,⟨some 8,none,.ck (.t 7)⟩,⟨some 9,none,.fa 1 (.t 8)⟩,⟨some 10,none,.ld none (.t 9)⟩,⟨some 3,none,.mov (.t 10)⟩]) (.seq (.seq (.reg [⟨some 11,none,.mov (.t 3)⟩,⟨some 12,none,.mov (.c (.int .i64 0))⟩]) (.block 0 (.loop (.seq (.reg [⟨some 13,none,.bin .lss (.t 12) (.t 11)⟩]) (.seq (.cond (.t 13) .skip (.exit 0)) (.seq (.block 1 (.seq (.reg [⟨some 14,none,.mov (.t 12)⟩,⟨some 4,none,.mov (.t 14)⟩]) (.seq (.reg [⟨some 15,none,.mov (.t 3)⟩,⟨some 16,none,.mov (.c (.int .i64 0))⟩]) (.block 2 (.loop (.seq (.reg [⟨some 17,none,.bin .lss (.t 16) (.t 15)⟩]) (.seq (.cond (.t 17) .skip (.exit 2)) (.seq (.block 3 (.seq (.reg [⟨some 18,none,.mov (.t 16)⟩,⟨some 5,none,.mov (.t 18)⟩]) (.seq (.reg [⟨some 19,none,.mov (.t 3)⟩,⟨some 20,none,.mov (.c (.int .i64 0))⟩]) (.block 4 (.loop (.seq (.reg [⟨some 21,none,.bin .lss (.t 20) (.t 19)⟩]) (.seq (.cond (.t 21) .skip (.exit 4)) (.seq (.block 5 (.seq (.reg [⟨some 22,none,.mov (.t 20)⟩,⟨some 6,none,.mov (.t 22)⟩]) (.seq (.drwo true [23] [0,1,2,3,4,5,6,7,8,9,12,13,15,16,17,18,19,20,21,22,10,11,14,23,24] [⟨some 23,none,.mov (.t 0)⟩,⟨some 24,none,.mov (.t 0)⟩,⟨some 25,none,.mov (.t 4)⟩,⟨some 26,none,.mov (.t 5)⟩,⟨some 27,none,.ck (.t 24)⟩,⟨some 28,none,.fa 10 (.t 27)⟩,⟨some 29,none,.ia 8 64 (.t 28) (.t 25)⟩,⟨some 30,none,.ia 8 8 (.t 29) (.t 26)⟩,⟨some 31,none,.ld (some 8) (.t 30)⟩,⟨some 32,none,.mov (.t 6)⟩,⟨some 33,none,.call 33 [(.t 32)]⟩,⟨some 34,none,.call 117 [(.t 23),(.t 31),(.t 33)]⟩,⟨some 35,none,.mov (.t 0)⟩,⟨some 36,none,.mov (.t 4)⟩,⟨some 37,none,.call 33 [(.t 36)]⟩,⟨some 38,none,.mov (.t 0)⟩,⟨some 39,none,.mov (.t 5)⟩,⟨some 40,none,.mov (.t 6)⟩,⟨some 41,none,.ck (.t 38)⟩,⟨some 42,none,.fa 10 (.t 41)⟩,⟨some 43,none,.ia 8 64 (.t 42) (.t 39)⟩,⟨some 44,none,.ia 8 8 (.t 43) (.t 40)⟩,⟨some 45,none,.ld (some 8) (.t 44)⟩,⟨some 46,none,.call 117 [(.t 35),(.t 37),(.t 45)]⟩,⟨some 47,none,.eqa true 8 (.t 34) (.t 46)⟩]) (.cond (.t 47) (.seq (.reg [⟨some 48,none,.mov (.t 4)⟩,⟨some 49,none,.mov (.t 5)⟩,⟨some 50,none,.mov (.t 6)⟩,⟨some 51,none,.bsl 2 3 1 [(1,(.int .i64 0))] [(0,1,(.t 48)),(1,1,(.t 49)),(2,1,(.t 50))]⟩,⟨some 2,none,.mov (.t 51)⟩]) .ret) .skip)))) (.reg [⟨some 52,none,.bin .add (.t 20) (.c (.int .i64 1))⟩,⟨some 20,none,.mov (.t 52)⟩]))))))))) (.reg [⟨some 53,none,.bin .add (.t 16) (.c (.int .i64 1))⟩,⟨some 16,none,.mov (.t 53)⟩]))))))))) (.reg [⟨some 54,none,.bin .add (.t 12) (.c (.int .i64 1))⟩,⟨some 12,none,.mov (.t 54)⟩]))))))) (.seq (.reg [⟨some 2,none,.mov (.c .nils)⟩]) .ret))))

set_option maxRecDepth 100000 in
theorem tr118 : trFn Tryz.prog Tryz.f118 = some (55, ir118, [.tmp 2]) := by kernel_rfl

theorem Algebra_fault (p : Int) (a : Nat) (m : Nat → Int) (b : Nat) (K : Blk) (H : Hp) (n : Nat) (hp : 2 ≤ p ∧ p ≤ 31) (ha : a ≤ 8) (hb : H.get b = some K) (hsz : K.size = 522)
    (h0 : K.c 0 = .int .i64 p) (h1 : K.c 1 = .int .i64 a) (hK : ∀ q, q < 512 → K.c (10 + q) = .int .u8 (m q)) (hm : isBy 512 m) :
    FnS Tryz.prog 118 [ptr b 0] H n (fun r H' _ => ((r = .s .nils ∧ assoc p a m) ∨ ((∃ b o l c, r = .s (.slc b o l c)) ∧ ¬assoc p a m)) ∧ H' = H) := by
  refine FnS.of_body Tryz.func118 tr118 (by simp) (fun hf => ?_)
  dsimp only [argEnv]
  unfold ir118
  have hbn := getlt hf hb
  (refine zG ?_)
  refine CS.iter a (fun i => [(12, i64 i), (11, i64 a), (3, i64 a), (0, ptr b 0)]) (fun _ => H)
    (fun i => ∀ i' j k : Nat, i' < i → j < a → k < a → ∀ q, q < 8 → pr p m (fun x => m (64 * i' + 8 * j + x)) (bas k) a q = pr p m (bas i') (fun x => m (64 * j + 8 * k + x)) a q) (by (repeat first | exact trivial | refine And.intro rfl ?_)) (Drops.refl _ _) (fun _ _ _ h => by omega) ?_
  intro i n1 hi hn hJ
  (refine zG ?_)
  refine zI ?_ ?_<;>intro h2
  · (refine zG ?_)
    refine CS.iter a (fun j => [(16, i64 j), (15, i64 a), (4, i64 i), (12, i64 i), (11, i64 a), (3, i64 a), (0, ptr b 0)]) (fun _ => H)
      (fun j => ∀ j' k : Nat, j' < j → k < a → ∀ q, q < 8 → pr p m (fun x => m (64 * i + 8 * j' + x)) (bas k) a q = pr p m (bas i) (fun x => m (64 * j' + 8 * k + x)) a q) (by (repeat first | exact trivial | refine And.intro rfl ?_)) (Drops.refl _ _) (fun _ _ h => by omega) ?_
    intro j n2 hj hn2 hJ2
    (refine zG ?_)
    refine zI ?_ ?_<;>intro h3
    · (refine zG ?_)
      refine CS.iter a (fun k => [(20, i64 k), (19, i64 a), (5, i64 j), (16, i64 j), (15, i64 a), (4, i64 i), (12, i64 i), (11, i64 a), (3, i64 a), (0, ptr b 0)]) (fun _ => H)
        (fun k => ∀ k' : Nat, k' < k → ∀ q, q < 8 → pr p m (fun x => m (64 * i + 8 * j + x)) (bas k') a q = pr p m (bas i) (fun x => m (64 * j + 8 * k' + x)) a q) (by (repeat first | exact trivial | refine And.intro rfl ?_)) (Drops.refl _ _) (fun _ h => by omega) ?_
      intro k n3 hk hn3 hJ3
      (refine zG ?_)
      refine zI ?_ ?_<;>intro h4
      · (refine zG ?_)
        refine CS.quietLo ?_
        (refine zG ?_)
        refine LS.callQ (.arr 8 (bys (bas k))) rfl (fun n' hn' => impl_basis k _ _ (by omega)) ?_
        (repeat first|refine zG ?_|(refine LS.nilO ?_;intro nq hnq hltq;try refine zU ?_)|(refine MS.new ?_;intro bq hbq hbqf;try refine zU ?_)|(refine MS.nil ?_;intro nq hnq hltq;have hlq:=hltq _ _ (Hp.get_eq _ _ _);clear hltq;try refine zU ?_)|(refine LS.nilQ ?_;try with_reducible intro nq hnq;try refine zU ?_))
        refine LS.callQ (.arr 8 (bys (pr p m (fun x => m (64 * i + 8 * j + x)) (bas k) a))) rfl (fun n' hn' => Algebra_product p a m (fun x => m (64 * i + 8 * j + x)) (bas k) b K _ _ hp ha (by exact zH) hsz h0 h1 hK hm (fun x hx => hm _ (by omega)) (bas_by _ _)) ?_
        (refine zG ?_)
        refine LS.callQ (.arr 8 (bys (bas i))) rfl (fun n' hn' => impl_basis i _ _ (by omega)) ?_
        (refine zG ?_)
        refine LS.callQ (.arr 8 (bys (pr p m (bas i) (fun x => m (64 * j + 8 * k + x)) a))) rfl (fun n' hn' => Algebra_product p a m (bas i) (fun x => m (64 * j + 8 * k + x)) b K _ _ hp ha (by exact zH) hsz h0 h1 hK hm (bas_by _ _) (fun x hx => hm _ (by omega))) ?_
        (repeat first|refine zG ?_|(refine LS.nilO ?_;intro nq hnq hltq;try refine zU ?_)|(refine MS.new ?_;intro bq hbq hbqf;try refine zU ?_)|(refine MS.nil ?_;intro nq hnq hltq;have hlq:=hltq _ _ (Hp.get_eq _ _ _);clear hltq;try refine zU ?_)|(refine LS.nilQ ?_;try with_reducible intro nq hnq;try refine zU ?_))
        refine zI ?_ ?_<;>intro h5
        · (refine zG ?_)
          exact ⟨_, H, rfl, by exact zD, .inr ⟨⟨_, _, _, _, rfl⟩, fun h => h5 (h i j k (by omega) (by omega) (by omega))⟩, rfl⟩
        · (refine zG ?_)
          refine ⟨by omega, by (repeat first | exact trivial | refine And.intro rfl ?_), Drops.refl _ _, fun k' hk' => ?_⟩
          by_cases e : k' = k
          · subst e; exact h5
          · exact hJ3 k' (by omega)
      · have : k = a := by omega
        subst this
        (refine zG ?_)
        refine ⟨by omega, by (repeat first | exact trivial | refine And.intro rfl ?_), Drops.refl _ _, fun j' k' hj' => ?_⟩
        by_cases e : j' = j
        · subst e; exact fun hk' => hJ3 k' hk'
        · exact hJ2 j' k' (by omega)
    · have : j = a := by omega
      subst this
      (refine zG ?_)
      refine ⟨by omega, by (repeat first | exact trivial | refine And.intro rfl ?_), Drops.refl _ _, fun i' j' k' hi' => ?_⟩
      by_cases e : i' = i
      · subst e; exact fun hj' hk' => hJ2 j' k' hj' hk'
      · exact hJ i' j' k' (by omega)
  · have : i = a := by omega
    subst this
    (refine zG ?_)
    exact ⟨_, H, rfl, by exact zD, .inl ⟨rfl, fun i' j' k' h1 h2 h3 => hJ i' j' k' h1 h2 h3⟩, rfl⟩

/-- (*impl.Hopf).tensor$1 -/
def ir139 : Cd := (.seq (.reg [⟨some 7,none,.box 3 (.t 0)⟩,⟨some 8,none,.box 3 (.t 1)⟩,⟨some 9,none,.box 3 (.t 2)⟩]) (.reg [⟨some 10,none,.ld none (.t 3)⟩,⟨some 11,none,.mkf 140 [] [(.t 4),(.t 7),(.t 5),(.t 6),(.t 9),(.t 8)]⟩,⟨some 12,none,.call 73 [(.t 10),(.t 11)]⟩]))

set_option maxRecDepth 100000 in
theorem tr139 : trFn Tryz.prog Tryz.f139 = some (13, ir139, []) := by kernel_rfl

theorem Hopf_tensor_1 (h : HT) (a : Nat) (A B : Nat → Int) (t j k : Nat) (ht : t = 8 * j + k) (hj : j < 8) (hk : k < 8)
    (b bB oB bb bh bf bo : Nat) (K KB Kb Kh : Blk) (H : Hp) (n : Nat) (hS : HS h a) (hb : H.get b = some K) (hsz : K.size = 1106) (hK : h.At K.c) (hB : h.By) (hA : isBy 64 A) (hBb : isBy 64 B)
    (gB : H.get bB = some KB) (sB : oB + 64 ≤ KB.size) (cB : ∀ q, q < 64 → KB.c (oB + q) = .int .u8 (B q))
    (gb : H.get bb = some Kb) (sb : Kb.size = 1) (cb : Kb.c 0 = .ptr bB oB) (gh : H.get bh = some Kh) (sh : Kh.size = 1) (ch : Kh.c 0 = .ptr b 0) (gf : H.get bf = some ⟨2, fldC h.p a, 62⟩)
    (go : H.get bo = some ⟨64, bys (tns h.p h.m A B t 0), 34⟩)
    (d1 : bo ≠ b) (d2 : bo ≠ bh) (d3 : bo ≠ bb) (d4 : bo ≠ bf) (d5 : bo ≠ bB) :
    FnS Tryz.prog 139 [i64 j, i64 k, i64 (A t), ptr bb 0, ptr bh 0, ptr bf 0, ptr bo 0] H n (fun _ H' _ => H' = H.set bo (bys (tns h.p h.m A B (t + 1) 0))) := by
  have hp := hS.hp
  have hs0 : H.set bo (bys (tns h.p h.m A B t 0)) = H := Hp.set_self go
  refine FnS.of_body Tryz.func139 tr139 (by simp) (fun hf => ?_)
  dsimp only [argEnv]
  unfold ir139
  have hbn := getlt hf hb
  have hbn1 := getlt hf gB
  have hbn2 := getlt hf gb
  have hbn3 := getlt hf gh
  have hbn4 := getlt hf gf
  have hbn5 := getlt hf go
  (refine zG ?_)
  refine RS.call rfl ((impl_pairs B bB oB _ _ (fun s => (n + 2, ⟨1, fun _ => .int .i64 (A t), 3⟩) :: (n + 1, ⟨1, fun _ => .int .i64 k, 3⟩) :: (n, ⟨1, fun _ => .int .i64 j, 3⟩) :: H.set bo (bys (tns h.p h.m A B t s))) _ _ (by (try dsimp only); rw [hs0])
    (fun s hs => ⟨KB, by exact zH, sB, cB⟩) hBb (fun s hs hz => by (try dsimp only); rw [tns_same hz]) (fun s l i' n' hs hs' hi' hz hn' => ?_)).mono ?_)
  · refine (Hopf_tensor_2 h a A B t j k s l i' ht hj hk hs' (by omega) hi' b bh n bf bo (n + 2) (n + 1) K Kh _ _ _ _ n' hS (by exact zH) hsz hK hB hA hBb (by exact zH) sh ch (by exact zH) rfl rfl (by exact zH) (by simp (disch := omega) only [Hp.get_ne]; exact Hp.get_set_self _ go) (by exact zH) rfl rfl (by exact zH) rfl rfl d1 d2 (by omega) d4 (by omega) (by omega)).mono ?_
    rintro r H' n2 hn2 rfl
    simp (disch := omega) only [Hp.set_eq, Hp.set_ne, Hp.set_set]
  rintro r H' n2 hn2 rfl
  (refine zG ?_)
  exact ⟨_, H.set bo (bys (tns h.p h.m A B (t + 1) 0)), rfl, by
    rw [tns_next]
    refine Drops.drop (by omega) ?_ (Drops.drop (by omega) ?_ (Drops.drop (by omega) ?_ (Drops.refl _ _))) <;> exact Hp.get_set_none _ (hf _ (by omega)), rfl⟩

end Go.Proofs.YtideblodkkgodaaGreat
