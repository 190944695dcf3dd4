/- Contracts of the program's functions. -/
import Derived.Test.YtbknndbfbebkdabGreatRR
import Derived.Test.YtbknndbfbebkdabGreatRLW
import Derived.Test.YtbknndbfbebkdabGreatRF2c
import Derived.Test.YtbknndbfbebkdabGreatRF3c
namespace Go.Proofs.YtbknndbfbebkdabGreatR
open Go.V
set_option linter.unusedSimpArgs false
set_option linter.unusedVariables false
set_option maxHeartbeats 4000000
/-- spec.l01Fault -/
def ir133 : Cd := (.seq (.reg [⟨some 1,none,.box 61 (.t 0)⟩,⟨some 2,none,.mov (.c .nils)⟩,⟨some 3,none,.mov (.c (.bool false))⟩]) (.seq (.seq (.reg [⟨some 4,none,.mov (.c (.int .i64 0))⟩]) (.block 0 (.loop (.seq (.seq (.reg [⟨some 7,none,.mov (.t 4)⟩,⟨some 8,none,.fa 1 (.t 1)⟩,⟨some 9,none,.ld none (.t 8)⟩,⟨some 10,none,.bin .lss (.t 7) (.t 9)⟩]) (.cond (.t 10) .skip (.exit 0))) (.seq (.block 1 (.seq (.reg [⟨some 5,none,.mov (.c (.int .i64 0))⟩]) (.block 2 (.loop (.seq (.seq (.reg [⟨some 13,none,.mov (.t 5)⟩,⟨some 14,none,.fa 1 (.t 1)⟩,⟨some 15,none,.ld none (.t 14)⟩,⟨some 16,none,.bin .lss (.t 13) (.t 15)⟩]) (.cond (.t 16) .skip (.exit 2))) (.seq (.block 3 (.seq (.reg [⟨some 6,none,.mov (.c (.int .i64 0))⟩]) (.block 4 (.loop (.seq (.seq (.reg [⟨some 19,none,.mov (.t 6)⟩,⟨some 20,none,.fa 1 (.t 1)⟩,⟨some 21,none,.ld none (.t 20)⟩,⟨some 22,none,.bin .lss (.t 19) (.t 21)⟩]) (.cond (.t 22) .skip (.exit 4))) (.seq (.block 5 (.seq (.drwo true [19] [0,1,2,3,4,5,6,7,10,11,13,14,15,16,17,18,8,9,12,19,20] [⟨some 25,none,.ld (some 522) (.t 1)⟩,⟨some 26,none,.mov (.t 4)⟩,⟨some 27,none,.mov (.t 5)⟩,⟨some 28,none,.fa 10 (.t 1)⟩,⟨some 29,none,.ia 8 64 (.t 28) (.t 26)⟩,⟨some 30,none,.ia 8 8 (.t 29) (.t 27)⟩,⟨some 31,none,.ld (some 8) (.t 30)⟩,⟨some 32,none,.mov (.t 6)⟩,⟨some 33,none,.call 31 [(.t 32)]⟩,⟨some 34,none,.call 30 [(.t 25),(.t 31),(.t 33)]⟩,⟨some 35,none,.ld (some 522) (.t 1)⟩,⟨some 36,none,.mov (.t 4)⟩,⟨some 37,none,.call 31 [(.t 36)]⟩,⟨some 38,none,.mov (.t 5)⟩,⟨some 39,none,.mov (.t 6)⟩,⟨some 40,none,.fa 10 (.t 1)⟩,⟨some 41,none,.ia 8 64 (.t 40) (.t 38)⟩,⟨some 42,none,.ia 8 8 (.t 41) (.t 39)⟩,⟨some 43,none,.ld (some 8) (.t 42)⟩,⟨some 44,none,.call 30 [(.t 35),(.t 37),(.t 43)]⟩,⟨some 45,none,.eqa true 8 (.t 34) (.t 44)⟩]) (.cond (.t 45) (.seq (.reg [⟨some 46,none,.mov (.t 4)⟩,⟨some 47,none,.mov (.t 5)⟩,⟨some 48,none,.mov (.t 6)⟩,⟨some 49,none,.bsl 2 3 1 [(1,(.int .i64 0))] [(0,1,(.t 46)),(1,1,(.t 47)),(2,1,(.t 48))]⟩,⟨some 2,none,.mov (.t 49)⟩,⟨some 3,none,.mov (.c (.bool true))⟩]) .ret) .skip))) (.reg [⟨some 23,none,.mov (.t 6)⟩,⟨some 24,none,.bin .add (.t 23) (.c (.int .i64 1))⟩,⟨some 6,none,.mov (.t 24)⟩]))))))) (.reg [⟨some 17,none,.mov (.t 5)⟩,⟨some 18,none,.bin .add (.t 17) (.c (.int .i64 1))⟩,⟨some 5,none,.mov (.t 18)⟩]))))))) (.reg [⟨some 11,none,.mov (.t 4)⟩,⟨some 12,none,.bin .add (.t 11) (.c (.int .i64 1))⟩,⟨some 4,none,.mov (.t 12)⟩])))))) (.seq (.reg [⟨some 2,none,.mov (.c .nils)⟩,⟨some 3,none,.mov (.c (.bool false))⟩]) .ret)))
set_option maxRecDepth 100000 in
theorem tr133 : trFn Tryz.prog Tryz.f133 = some (50, ir133, [.tmp 2, .tmp 3]) := by kernel_rfl
theorem spec_l01Fault (p : Int) (a : Nat) (m : Nat → Int) (K : Nat → SV) (H : Hp) (n : Nat) (hp : 2 ≤ p ∧ p ≤ 31) (ha : a ≤ 8)
    (h0 : K 0 = .int .i64 p) (h1 : K 1 = .int .i64 a) (hK : ∀ q, q < 512 → K (10 + q) = .int .u8 (m q)) (hm : isBy 512 m) :
    FnS Tryz.prog 133 [.arr 522 K] H n (fun r H' _ => (∃ s, r = .tup [.s s, bl (!tb (assoc p a m))]) ∧ H' = H) := by
  refine FnS.of_body Tryz.func133 tr133 (by simp) (fun hf => ?_)
  dsimp only [argEnv]
  unfold ir133
  (repeat first|refine zG ?_|(refine LS.nilO ?_;intro nq hnq hltq;try refine zU ?_)|(refine MS.new ?_;intro bq hbq hbqf;try refine zU ?_)|(refine MS.nil ?_;intro nq hnq hltq;have hlq:=hltq _ _ (Hp.get_eq _ _ _);clear hltq;try refine zU ?_)|(refine LS.nilQ ?_;try with_reducible intro nq hnq;try refine zU ?_))
  refine CS.iter a (fun i => [(4, i64 i), (1, ptr n 0)]) (fun _ => (n, ⟨522, K, 61⟩) :: H)
    (fun i => ∀ i' j k : Nat, i' < i → j < a → k < a → ∀ q, q < 8 → pr p m (fun x => m (64 * i' + 8 * j + x)) (bas k) a q = pr p m (bas i') (fun x => m (64 * j + 8 * k + x)) a q) (by (repeat first | exact trivial | refine And.intro rfl ?_)) (Drops.refl _ _) (fun _ _ _ h => by omega) ?_
  intro i n1 hi hn hJ
  (repeat first|refine zG ?_|(refine LS.nilO ?_;intro nq hnq hltq;try refine zU ?_)|(refine MS.new ?_;intro bq hbq hbqf;try refine zU ?_)|(refine MS.nil ?_;intro nq hnq hltq;have hlq:=hltq _ _ (Hp.get_eq _ _ _);clear hltq;try refine zU ?_)|(refine LS.nilQ ?_;try with_reducible intro nq hnq;try refine zU ?_))
  refine zI ?_ ?_<;>intro h2
  · (repeat first|refine zG ?_|(refine LS.nilO ?_;intro nq hnq hltq;try refine zU ?_)|(refine MS.new ?_;intro bq hbq hbqf;try refine zU ?_)|(refine MS.nil ?_;intro nq hnq hltq;have hlq:=hltq _ _ (Hp.get_eq _ _ _);clear hltq;try refine zU ?_)|(refine LS.nilQ ?_;try with_reducible intro nq hnq;try refine zU ?_))
    refine CS.iter a (fun j => [(5, i64 j), (4, i64 i), (1, ptr n 0)]) (fun _ => (n, ⟨522, K, 61⟩) :: H)
      (fun j => ∀ j' k : Nat, j' < j → k < a → ∀ q, q < 8 → pr p m (fun x => m (64 * i + 8 * j' + x)) (bas k) a q = pr p m (bas i) (fun x => m (64 * j' + 8 * k + x)) a q) (by (repeat first | exact trivial | refine And.intro rfl ?_)) (Drops.refl _ _) (fun _ _ h => by omega) ?_
    intro j n2 hj hn2 hJ2
    (repeat first|refine zG ?_|(refine LS.nilO ?_;intro nq hnq hltq;try refine zU ?_)|(refine MS.new ?_;intro bq hbq hbqf;try refine zU ?_)|(refine MS.nil ?_;intro nq hnq hltq;have hlq:=hltq _ _ (Hp.get_eq _ _ _);clear hltq;try refine zU ?_)|(refine LS.nilQ ?_;try with_reducible intro nq hnq;try refine zU ?_))
    refine zI ?_ ?_<;>intro h3
    · (repeat first|refine zG ?_|(refine LS.nilO ?_;intro nq hnq hltq;try refine zU ?_)|(refine MS.new ?_;intro bq hbq hbqf;try refine zU ?_)|(refine MS.nil ?_;intro nq hnq hltq;have hlq:=hltq _ _ (Hp.get_eq _ _ _);clear hltq;try refine zU ?_)|(refine LS.nilQ ?_;try with_reducible intro nq hnq;try refine zU ?_))
      refine CS.iter a (fun k => [(6, i64 k), (5, i64 j), (4, i64 i), (1, ptr n 0)]) (fun _ => (n, ⟨522, K, 61⟩) :: H)
        (fun k => ∀ k' : Nat, k' < k → ∀ q, q < 8 → pr p m (fun x => m (64 * i + 8 * j + x)) (bas k') a q = pr p m (bas i) (fun x => m (64 * j + 8 * k' + x)) a q) (by (repeat first | exact trivial | refine And.intro rfl ?_)) (Drops.refl _ _) (fun _ h => by omega) ?_
      intro k n3 hk hn3 hJ3
      (repeat first|refine zG ?_|(refine LS.nilO ?_;intro nq hnq hltq;try refine zU ?_)|(refine MS.new ?_;intro bq hbq hbqf;try refine zU ?_)|(refine MS.nil ?_;intro nq hnq hltq;have hlq:=hltq _ _ (Hp.get_eq _ _ _);clear hltq;try refine zU ?_)|(refine LS.nilQ ?_;try with_reducible intro nq hnq;try refine zU ?_))
      refine zI ?_ ?_<;>intro h4
      · (repeat first|refine zG ?_|(refine LS.nilO ?_;intro nq hnq hltq;try refine zU ?_)|(refine MS.new ?_;intro bq hbq hbqf;try refine zU ?_)|(refine MS.nil ?_;intro nq hnq hltq;have hlq:=hltq _ _ (Hp.get_eq _ _ _);clear hltq;try refine zU ?_)|(refine LS.nilQ ?_;try with_reducible intro nq hnq;try refine zU ?_))
        refine CS.quietLo ?_
        (repeat first|refine zG ?_|(refine LS.nilO ?_;intro nq hnq hltq;try refine zU ?_)|(refine MS.new ?_;intro bq hbq hbqf;try refine zU ?_)|(refine MS.nil ?_;intro nq hnq hltq;have hlq:=hltq _ _ (Hp.get_eq _ _ _);clear hltq;try refine zU ?_)|(refine LS.nilQ ?_;try with_reducible intro nq hnq;try refine zU ?_))
        refine LS.callQ (.arr 8 (bys (bas k))) rfl (fun n' hn' => spec_l01Basis k _ _ (by omega)) ?_
        (repeat first|refine zG ?_|(refine LS.nilO ?_;intro nq hnq hltq;try refine zU ?_)|(refine MS.new ?_;intro bq hbq hbqf;try refine zU ?_)|(refine MS.nil ?_;intro nq hnq hltq;have hlq:=hltq _ _ (Hp.get_eq _ _ _);clear hltq;try refine zU ?_)|(refine LS.nilQ ?_;try with_reducible intro nq hnq;try refine zU ?_))
        refine LS.callQ (.arr 8 (bys (pr p m (fun x => m (64 * i + 8 * j + x)) (bas k) a))) rfl (fun n' hn' => spec_l01Times p a m (fun x => m (64 * i + 8 * j + x)) (bas k) _ _ _ hp ha h0 h1 hK hm (fun x hx => hm _ (by omega)) (bas_by _ _)) ?_
        (repeat first|refine zG ?_|(refine LS.nilO ?_;intro nq hnq hltq;try refine zU ?_)|(refine MS.new ?_;intro bq hbq hbqf;try refine zU ?_)|(refine MS.nil ?_;intro nq hnq hltq;have hlq:=hltq _ _ (Hp.get_eq _ _ _);clear hltq;try refine zU ?_)|(refine LS.nilQ ?_;try with_reducible intro nq hnq;try refine zU ?_))
        refine LS.callQ (.arr 8 (bys (bas i))) rfl (fun n' hn' => spec_l01Basis i _ _ (by omega)) ?_
        (repeat first|refine zG ?_|(refine LS.nilO ?_;intro nq hnq hltq;try refine zU ?_)|(refine MS.new ?_;intro bq hbq hbqf;try refine zU ?_)|(refine MS.nil ?_;intro nq hnq hltq;have hlq:=hltq _ _ (Hp.get_eq _ _ _);clear hltq;try refine zU ?_)|(refine LS.nilQ ?_;try with_reducible intro nq hnq;try refine zU ?_))
        refine LS.callQ (.arr 8 (bys (pr p m (bas i) (fun x => m (64 * j + 8 * k + x)) a))) rfl (fun n' hn' => spec_l01Times p a m (bas i) (fun x => m (64 * j + 8 * k + x)) _ _ _ hp ha h0 h1 hK hm (bas_by _ _) (fun x hx => hm _ (by omega))) ?_
        (repeat first|refine zG ?_|(refine LS.nilO ?_;intro nq hnq hltq;try refine zU ?_)|(refine MS.new ?_;intro bq hbq hbqf;try refine zU ?_)|(refine MS.nil ?_;intro nq hnq hltq;have hlq:=hltq _ _ (Hp.get_eq _ _ _);clear hltq;try refine zU ?_)|(refine LS.nilQ ?_;try with_reducible intro nq hnq;try refine zU ?_))
        refine zI ?_ ?_<;>intro h5
        · (repeat first|refine zG ?_|(refine LS.nilO ?_;intro nq hnq hltq;try refine zU ?_)|(refine MS.new ?_;intro bq hbq hbqf;try refine zU ?_)|(refine MS.nil ?_;intro nq hnq hltq;have hlq:=hltq _ _ (Hp.get_eq _ _ _);clear hltq;try refine zU ?_)|(refine LS.nilQ ?_;try with_reducible intro nq hnq;try refine zU ?_))
          exact ⟨_, H, rfl, by exact zD, ⟨_, by rw [tb_false (fun h : assoc p a m => h5 (h i j k (by omega) (by omega) (by omega)))]; rfl⟩, rfl⟩
        · (repeat first|refine zG ?_|(refine LS.nilO ?_;intro nq hnq hltq;try refine zU ?_)|(refine MS.new ?_;intro bq hbq hbqf;try refine zU ?_)|(refine MS.nil ?_;intro nq hnq hltq;have hlq:=hltq _ _ (Hp.get_eq _ _ _);clear hltq;try refine zU ?_)|(refine LS.nilQ ?_;try with_reducible intro nq hnq;try refine zU ?_))
          refine ⟨by omega, by (repeat first | exact trivial | refine And.intro rfl ?_), Drops.refl _ _, fun k' hk' => ?_⟩
          by_cases e : k' = k
          · subst e; exact h5
          · exact hJ3 k' (by omega)
      · have : k = a := by omega
        subst this
        (repeat first|refine zG ?_|(refine LS.nilO ?_;intro nq hnq hltq;try refine zU ?_)|(refine MS.new ?_;intro bq hbq hbqf;try refine zU ?_)|(refine MS.nil ?_;intro nq hnq hltq;have hlq:=hltq _ _ (Hp.get_eq _ _ _);clear hltq;try refine zU ?_)|(refine LS.nilQ ?_;try with_reducible intro nq hnq;try refine zU ?_))
        refine ⟨by omega, by (repeat first | exact trivial | refine And.intro rfl ?_), Drops.refl _ _, fun j' k' hj' => ?_⟩
        by_cases e : j' = j
        · subst e; exact fun hk' => hJ3 k' hk'
        · exact hJ2 j' k' (by omega)
    · have : j = a := by omega
      subst this
      (repeat first|refine zG ?_|(refine LS.nilO ?_;intro nq hnq hltq;try refine zU ?_)|(refine MS.new ?_;intro bq hbq hbqf;try refine zU ?_)|(refine MS.nil ?_;intro nq hnq hltq;have hlq:=hltq _ _ (Hp.get_eq _ _ _);clear hltq;try refine zU ?_)|(refine LS.nilQ ?_;try with_reducible intro nq hnq;try refine zU ?_))
      refine ⟨by omega, by (repeat first | exact trivial | refine And.intro rfl ?_), Drops.refl _ _, fun i' j' k' hi' => ?_⟩
      by_cases e : i' = i
      · subst e; exact fun hj' hk' => hJ2 j' k' hj' hk'
      · exact hJ i' j' k' (by omega)
  · have : i = a := by omega
    subst this
    (repeat first|refine zG ?_|(refine LS.nilO ?_;intro nq hnq hltq;try refine zU ?_)|(refine MS.new ?_;intro bq hbq hbqf;try refine zU ?_)|(refine MS.nil ?_;intro nq hnq hltq;have hlq:=hltq _ _ (Hp.get_eq _ _ _);clear hltq;try refine zU ?_)|(refine LS.nilQ ?_;try with_reducible intro nq hnq;try refine zU ?_))
    exact ⟨_, H, rfl, by exact zD, ⟨_, by rw [tb_true (show assoc p i m from fun i' j' k' h1 h2 h3 => hJ i' j' k' h1 h2 h3)]; rfl⟩, rfl⟩
/-- (*impl.Hopf).axiom4 -/
def ir109 : Cd := (.seq (.reg [⟨some 2,none,.mov (.c (.bool false))⟩]) (.seq (.drwo true [16] [0,1,2,3,4,6,8,9,10,11,12,13,14,15,5,7,16,17,18] [⟨some 3,none,.mov (.t 0)⟩,⟨some 4,none,.mov (.t 0)⟩,⟨some 5,none,.ck (.t 4)⟩,⟨some 6,none,.fa 2 (.t 5)⟩,⟨some 7,none,.ld (some 8) (.t 6)⟩,⟨some 8,none,.call 128 [(.t 3),(.t 7)]⟩,⟨some 9,none,.mov (.t 0)⟩,⟨some 10,none,.call 49 [(.t 9)]⟩,⟨some 11,none,.mov (.t 0)⟩,⟨some 12,none,.ck (.t 11)⟩,⟨some 13,none,.fa 2 (.t 12)⟩,⟨some 14,none,.ld (some 8) (.t 13)⟩,⟨some 15,none,.mov (.t 0)⟩,⟨some 16,none,.ck (.t 15)⟩,⟨some 17,none,.fa 2 (.t 16)⟩,⟨some 18,none,.ld (some 8) (.t 17)⟩,⟨some 19,none,.call 99 [(.t 10),(.t 14),(.t 18)]⟩,⟨some 20,none,.eqa false 64 (.t 8) (.t 19)⟩,⟨some 2,none,.mov (.t 20)⟩]) .ret))
set_option maxRecDepth 100000 in
theorem tr109 : trFn Tryz.prog Tryz.f109 = some (21, ir109, [.tmp 2]) := by kernel_rfl
theorem Hopf_axiom4 (h : HT) (a : Nat) (b : Nat) (K : Blk) (H : Hp) (n : Nat) (hS : HS h a) (hb : H.get b = some K) (hsz : K.size = 1106) (hK : h.At K.c) (hB : h.By) :
    FnS Tryz.prog 109 [ptr b 0] H n (fun r H' _ => r = bl (tb (ax4 h)) ∧ H' = H) := by
  have hp := hS.hp
  have ha := hS.ha
  have hk1 := hK.n
  rw [hS.hn] at hk1
  have hk5 := hK.u
  refine FnS.of_body Tryz.func109 tr109 (by simp) (fun hf => ?_)
  dsimp only [argEnv]
  unfold ir109
  have hbn := getlt hf hb
  (repeat first|refine zG ?_|(refine LS.nilO ?_;intro nq hnq hltq;try refine zU ?_)|(refine MS.new ?_;intro bq hbq hbqf;try refine zU ?_)|(refine MS.nil ?_;intro nq hnq hltq;have hlq:=hltq _ _ (Hp.get_eq _ _ _);clear hltq;try refine zU ?_)|(refine LS.nilQ ?_;try with_reducible intro nq hnq;try refine zU ?_))
  refine CS.quietLo ?_
  (repeat first|refine zG ?_|(refine LS.nilO ?_;intro nq hnq hltq;try refine zU ?_)|(refine MS.new ?_;intro bq hbq hbqf;try refine zU ?_)|(refine MS.nil ?_;intro nq hnq hltq;have hlq:=hltq _ _ (Hp.get_eq _ _ _);clear hltq;try refine zU ?_)|(refine LS.nilQ ?_;try with_reducible intro nq hnq;try refine zU ?_))
  refine LS.callQ (.arr 64 (bys (cps h.p h.c h.u 8))) rfl (fun n' hn' => Hopf_coproduct h a h.u b K _ _ hS (by exact zH) hsz hK hB hB.u) ?_
  (repeat first|refine zG ?_|(refine LS.nilO ?_;intro nq hnq hltq;try refine zU ?_)|(refine MS.new ?_;intro bq hbq hbqf;try refine zU ?_)|(refine MS.nil ?_;intro nq hnq hltq;have hlq:=hltq _ _ (Hp.get_eq _ _ _);clear hltq;try refine zU ?_)|(refine LS.nilQ ?_;try with_reducible intro nq hnq;try refine zU ?_))
  refine LS.callQ (fld h.p a) rfl (fun n' hn' => Hopf_field h.p a b K _ _ (by exact zH) hsz hK.p hk1 (by omega)) ?_
  (repeat first|refine zG ?_|(refine LS.nilO ?_;intro nq hnq hltq;try refine zU ?_)|(refine MS.new ?_;intro bq hbq hbqf;try refine zU ?_)|(refine MS.nil ?_;intro nq hnq hltq;have hlq:=hltq _ _ (Hp.get_eq _ _ _);clear hltq;try refine zU ?_)|(refine LS.nilQ ?_;try with_reducible intro nq hnq;try refine zU ?_))
  refine LS.callQ (.arr 64 (bys (outer h.p h.u h.u))) rfl (fun n' hn' => field_pair h.p a h.u h.u _ _ hp hB.u hB.u) ?_
  (repeat first|refine zG ?_|(refine LS.nilO ?_;intro nq hnq hltq;try refine zU ?_)|(refine MS.new ?_;intro bq hbq hbqf;try refine zU ?_)|(refine MS.nil ?_;intro nq hnq hltq;have hlq:=hltq _ _ (Hp.get_eq _ _ _);clear hltq;try refine zU ?_)|(refine LS.nilQ ?_;try with_reducible intro nq hnq;try refine zU ?_))
  exact ⟨_, H, rfl, by exact zD, rfl, rfl⟩
/-- (*impl.Hopf).product1323 -/
def ir79 : Cd := (.seq (.reg [⟨some 2,none,.box 55 (.t 0)⟩,⟨some 3,none,.box 56 (.t 1)⟩,⟨some 4,none,.new 33 [(512,(.int .u8 0))]⟩]) (.seq (.reg [⟨some 7,none,.ld none (.t 2)⟩,⟨some 8,none,.call 49 [(.t 7)]⟩,⟨some 9,none,.build 512 [(512,(.int .u8 0))] []⟩,⟨some 5,none,.new 85 [(2,(.int .i64 0))]⟩,⟨some 6,none,.new 33 [(512,(.int .u8 0))]⟩,⟨none,none,.st 2 (.t 5) (.t 8)⟩,⟨none,none,.st 512 (.t 6) (.t 9)⟩]) (.seq (.reg [⟨some 10,none,.ld none (.t 3)⟩,⟨some 11,none,.mkf 95 [] [(.t 3),(.t 5),(.t 6),(.t 2)]⟩,⟨some 12,none,.call 51 [(.t 10),(.t 11)]⟩]) (.seq (.reg [⟨some 13,none,.ld (some 512) (.t 6)⟩,⟨none,none,.st 512 (.t 4) (.t 13)⟩]) .ret))))
set_option maxRecDepth 100000 in
theorem tr79 : trFn Tryz.prog Tryz.f79 = some (14, ir79, [.cell (some 512) 4]) := by kernel_rfl
theorem Hopf_product1323 (h : HT) (a : Nat) (s : Nat → Int) (b bs os : Nat) (K Ks : Blk) (H : Hp) (n : Nat) (hS : HS h a) (hb : H.get b = some K) (hsz : K.size = 1106) (hK : h.At K.c) (hB : h.By)
    (hbs : H.get bs = some Ks) (ho : os + 64 ≤ Ks.size) (hc : ∀ i, i < 64 → Ks.c (os + i) = .int .u8 (s i)) (hs : isBy 64 s) :
    FnS Tryz.prog 79 [ptr b 0, ptr bs os] H n (fun r H' _ => r = .arr 512 (bys (r23 h.p h.m s)) ∧ H' = H) := by
  have hp := hS.hp
  have ha := hS.ha
  have hk1 := hK.n
  rw [hS.hn] at hk1
  refine FnS.of_body Tryz.func79 tr79 (by simp) (fun hf => ?_)
  dsimp only [argEnv]
  unfold ir79
  have hbn := getlt hf hb
  have hbn2 := getlt hf hbs
  (repeat first|refine zG ?_|(refine LS.nilO ?_;intro nq hnq hltq;try refine zU ?_)|(refine MS.new ?_;intro bq hbq hbqf;try refine zU ?_)|(refine MS.nil ?_;intro nq hnq hltq;have hlq:=hltq _ _ (Hp.get_eq _ _ _);clear hltq;try refine zU ?_)|(refine LS.nilQ ?_;try with_reducible intro nq hnq;try refine zU ?_))
  refine RS.call rfl ((Hopf_field h.p a b K _ _ (by exact zH) hsz hK.p hk1 (by omega)).mono ?_)
  rintro r H n2 hn2 ⟨rfl, rfl⟩
  (repeat first|refine zG ?_|(refine LS.nilO ?_;intro nq hnq hltq;try refine zU ?_)|(refine MS.new ?_;intro bq hbq hbqf;try refine zU ?_)|(refine MS.nil ?_;intro nq hnq hltq;have hlq:=hltq _ _ (Hp.get_eq _ _ _);clear hltq;try refine zU ?_)|(refine LS.nilQ ?_;try with_reducible intro nq hnq;try refine zU ?_))
  refine RS.call rfl ((impl_pairs s bs os _ _ (fun t => (n2 + 1, ⟨512, bys (q23 h.p h.m s t 0), 33⟩) :: (n2, ⟨2, fldC h.p a, 85⟩) :: (n + 2, ⟨512, fun _ => .int .u8 0, 33⟩) :: (n + 1, ⟨1, fun _ => .ptr bs os, 56⟩) :: (n, ⟨1, fun _ => .ptr b 0, 55⟩) :: H) _ _ (by (try dsimp only); rw [q23_zero]; rfl)
    (fun s hs => ⟨Ks, by exact zH, ho, hc⟩) hs (fun t ht hz => by (try dsimp only); rw [q23_skip hz]) (fun t j k n' ht ht' hk hz hn' => ?_)).mono ?_)
  · refine (Hopf_product1323_1 h a s t j k ht' (by omega) hk b bs os (n + 1) n n2 (n2 + 1) K Ks _ _ _ n' hS (by exact zH) hsz hK hB hs (by exact zH) ho hc (by exact zH) rfl rfl (by exact zH) rfl rfl (by exact zH) (by exact zH) (by omega) (by omega) (by omega) (by omega) (by omega)).mono ?_
    rintro r H' n3 hn3 rfl
    simp (disch := omega) only [Hp.set_eq, Hp.set_ne, Hp.set_set]
  rintro r H' n3 hn3 rfl
  (repeat first|refine zG ?_|(refine LS.nilO ?_;intro nq hnq hltq;try refine zU ?_)|(refine MS.new ?_;intro bq hbq hbqf;try refine zU ?_)|(refine MS.nil ?_;intro nq hnq hltq;have hlq:=hltq _ _ (Hp.get_eq _ _ _);clear hltq;try refine zU ?_)|(refine LS.nilQ ?_;try with_reducible intro nq hnq;try refine zU ?_))
  exact ⟨.arr 512 (bys (r23 h.p h.m s)), _, conc_arr (fun q hq => by simp only [Nat.zero_add, bys]; rw [q23_end _ _ _ hq]), by exact zD, rfl, rfl⟩
/-- spec.l09Drinfeld -/
def ir26 : Cd := (.seq (.reg [⟨some 2,none,.box 35 (.t 0)⟩,⟨some 3,none,.box 29 (.t 1)⟩,⟨some 4,none,.new 27 [(8,(.int .u8 0))]⟩]) (.seq (.reg [⟨some 8,none,.build 8 [(8,(.int .u8 0))] []⟩,⟨some 5,none,.new 27 [(8,(.int .u8 0))]⟩,⟨none,none,.st 8 (.t 5) (.t 8)⟩]) (.seq (.seq (.reg [⟨some 6,none,.mov (.c (.int .i64 0))⟩]) (.block 0 (.loop (.seq (.seq (.reg [⟨some 9,none,.mov (.t 6)⟩,⟨some 10,none,.fa 1 (.t 2)⟩,⟨some 11,none,.ld none (.t 10)⟩,⟨some 12,none,.bin .lss (.t 9) (.t 11)⟩]) (.cond (.t 12) .skip (.exit 0))) (.seq (.block 1 (.seq (.reg [⟨some 7,none,.mov (.c (.int .i64 0))⟩]) (.block 2 (.loop (.seq (.seq (.reg [⟨some 15,none,.mov (.t 7)⟩,⟨some 16,none,.fa 1 (.t 2)⟩,⟨some 17,none,.ld none (.t 16)⟩,⟨some 18,none,.bin .lss (.t 15) (.t 17)⟩]) (.cond (.t 18) .skip (.exit 2))) (.seq (.block 3 (.seq (.reg [⟨some 21,none,.mov (.t 6)⟩,⟨some 22,none,.mov (.t 7)⟩,⟨some 23,none,.ia 8 8 (.t 3) (.t 21)⟩,⟨some 24,none,.ia 8 1 (.t 23) (.t 22)⟩,⟨some 25,none,.ld none (.t 24)⟩,⟨some 26,none,.bin .neq (.t 25) (.c (.int .u8 0))⟩]) (.cond (.t 26) (.drwo true [18,19] [0,1,2,3,5,6,7,8,9,12,13,14,15,16,17,4,10,11,18,19] [⟨some 27,none,.fa 0 (.t 2)⟩,⟨some 28,none,.ld none (.t 27)⟩,⟨some 29,none,.ld (some 8) (.t 5)⟩,⟨some 30,none,.ld (some 1106) (.t 2)⟩,⟨some 31,none,.call 28 [(.t 30)]⟩,⟨some 32,none,.mov (.t 7)⟩,⟨some 33,none,.fa 1042 (.t 2)⟩,⟨some 34,none,.ia 8 8 (.t 33) (.t 32)⟩,⟨some 35,none,.ld (some 8) (.t 34)⟩,⟨some 36,none,.mov (.t 6)⟩,⟨some 37,none,.call 31 [(.t 36)]⟩,⟨some 38,none,.call 30 [(.t 31),(.t 35),(.t 37)]⟩,⟨some 39,none,.mov (.t 6)⟩,⟨some 40,none,.mov (.t 7)⟩,⟨some 41,none,.ia 8 8 (.t 3) (.t 39)⟩,⟨some 42,none,.ia 8 1 (.t 41) (.t 40)⟩,⟨some 43,none,.ld none (.t 42)⟩,⟨some 44,none,.cv .i64 (.t 43)⟩,⟨some 45,none,.call 47 [(.t 28),(.t 29),(.t 38),(.t 44)]⟩,⟨none,none,.st 8 (.t 5) (.t 45)⟩]) .skip))) (.reg [⟨some 19,none,.mov (.t 7)⟩,⟨some 20,none,.bin .add (.t 19) (.c (.int .i64 1))⟩,⟨some 7,none,.mov (.t 20)⟩]))))))) (.reg [⟨some 13,none,.mov (.t 6)⟩,⟨some 14,none,.bin .add (.t 13) (.c (.int .i64 1))⟩,⟨some 6,none,.mov (.t 14)⟩])))))) (.seq (.reg [⟨some 46,none,.ld (some 8) (.t 5)⟩,⟨none,none,.st 8 (.t 4) (.t 46)⟩]) .ret))))
set_option maxRecDepth 100000 in
theorem tr26 : trFn Tryz.prog Tryz.f26 = some (47, ir26, [.cell (some 8) 4]) := by kernel_rfl
theorem spec_l09Drinfeld (h : HT) (a : Nat) (r : Nat → Int) (K : Nat → SV) (H : Hp) (n : Nat) (hS : HS h a) (hK : h.At K) (hB : h.By) (hr : isBy 64 r) (hz : lz a r) :
    FnS Tryz.prog 26 [.arr 1106 K, .arr 64 (bys r)] H n (fun v H' _ => v = .arr 8 (bys (drf h.p h.m h.s r a 64)) ∧ H' = H) := by
  have hp := hS.hp
  have ha := hS.ha
  have hk0 := hK.p
  have hk1 := hK.n
  rw [hS.hn] at hk1
  have hk5 := hK.s
  have hk6 := hK.m
  refine FnS.of_body Tryz.func26 tr26 (by simp) (fun hf => ?_)
  dsimp only [argEnv]
  unfold ir26
  (repeat first|refine zG ?_|(refine LS.nilO ?_;intro nq hnq hltq;try refine zU ?_)|(refine MS.new ?_;intro bq hbq hbqf;try refine zU ?_)|(refine MS.nil ?_;intro nq hnq hltq;have hlq:=hltq _ _ (Hp.get_eq _ _ _);clear hltq;try refine zU ?_)|(refine LS.nilQ ?_;try with_reducible intro nq hnq;try refine zU ?_))
  refine CS.iter a (fun j => [(6, i64 j), (2, ptr n 0), (3, ptr (n + 1) 0), (4, ptr (n + 2) 0), (5, ptr (n + 3) 0)])
    (fun j => (n + 3, ⟨8, bys (drf h.p h.m h.s r a (8 * j)), 27⟩) :: (n + 2, ⟨8, bys (fun _ => 0), 27⟩) :: (n + 1, ⟨64, bys r, 29⟩) :: (n, ⟨1106, K, 35⟩) :: H) (fun _ => True) (by (repeat first | exact trivial | refine And.intro rfl ?_))
    (Drops.keepc rfl rfl (fun _ _ => by rw [show drf h.p h.m h.s r a (8 * 0) = fun _ => 0 from drf_zero _ _ _ _ _]; rfl) (Drops.keepc rfl rfl (fun _ _ => rfl) (Drops.refl _ _))) trivial ?_
  intro j n3 hj hn _
  (repeat first|refine zG ?_|(refine LS.nilO ?_;intro nq hnq hltq;try refine zU ?_)|(refine MS.new ?_;intro bq hbq hbqf;try refine zU ?_)|(refine MS.nil ?_;intro nq hnq hltq;have hlq:=hltq _ _ (Hp.get_eq _ _ _);clear hltq;try refine zU ?_)|(refine LS.nilQ ?_;try with_reducible intro nq hnq;try refine zU ?_))
  refine zI ?_ ?_<;>intro h2
  · (repeat first|refine zG ?_|(refine LS.nilO ?_;intro nq hnq hltq;try refine zU ?_)|(refine MS.new ?_;intro bq hbq hbqf;try refine zU ?_)|(refine MS.nil ?_;intro nq hnq hltq;have hlq:=hltq _ _ (Hp.get_eq _ _ _);clear hltq;try refine zU ?_)|(refine LS.nilQ ?_;try with_reducible intro nq hnq;try refine zU ?_))
    refine CS.iter a (fun k => [(7, i64 k), (6, i64 j), (2, ptr n 0), (3, ptr (n + 1) 0), (4, ptr (n + 2) 0), (5, ptr (n + 3) 0)])
      (fun k => (n + 3, ⟨8, bys (drf h.p h.m h.s r a (8 * j + k)), 27⟩) :: (n + 2, ⟨8, bys (fun _ => 0), 27⟩) :: (n + 1, ⟨64, bys r, 29⟩) :: (n, ⟨1106, K, 35⟩) :: H) (fun _ => True) (by (repeat first | exact trivial | refine And.intro rfl ?_)) (Drops.refl _ _) trivial ?_
    intro k n4 hk hn4 _
    (repeat first|refine zG ?_|(refine LS.nilO ?_;intro nq hnq hltq;try refine zU ?_)|(refine MS.new ?_;intro bq hbq hbqf;try refine zU ?_)|(refine MS.nil ?_;intro nq hnq hltq;have hlq:=hltq _ _ (Hp.get_eq _ _ _);clear hltq;try refine zU ?_)|(refine LS.nilQ ?_;try with_reducible intro nq hnq;try refine zU ?_))
    refine zI ?_ ?_<;>intro h3
    · have hrt := hr (8 * j + k) (by omega)
      have hr1 : (bys r) (8 * j + k) = .int .u8 (r (8 * j + k)) := rfl
      have hprr := (pr_res hp.1 h.m (fun y => h.s (8 * k + y)) (bas j) a 8).by hp.2
      (repeat first|refine zG ?_|(refine LS.nilO ?_;intro nq hnq hltq;try refine zU ?_)|(refine MS.new ?_;intro bq hbq hbqf;try refine zU ?_)|(refine MS.nil ?_;intro nq hnq hltq;have hlq:=hltq _ _ (Hp.get_eq _ _ _);clear hltq;try refine zU ?_)|(refine LS.nilQ ?_;try with_reducible intro nq hnq;try refine zU ?_))
      refine zI ?_ ?_<;>intro h4
      · (repeat first|refine zG ?_|(refine LS.nilO ?_;intro nq hnq hltq;try refine zU ?_)|(refine MS.new ?_;intro bq hbq hbqf;try refine zU ?_)|(refine MS.nil ?_;intro nq hnq hltq;have hlq:=hltq _ _ (Hp.get_eq _ _ _);clear hltq;try refine zU ?_)|(refine LS.nilQ ?_;try with_reducible intro nq hnq;try refine zU ?_))
        refine CS.tailLo _ (List.Mem.head _) ?_; dsimp only [List.take, List.drop]
        (repeat first|refine zG ?_|(refine LS.nilO ?_;intro nq hnq hltq;try refine zU ?_)|(refine MS.new ?_;intro bq hbq hbqf;try refine zU ?_)|(refine MS.nil ?_;intro nq hnq hltq;have hlq:=hltq _ _ (Hp.get_eq _ _ _);clear hltq;try refine zU ?_)|(refine LS.nilQ ?_;try with_reducible intro nq hnq;try refine zU ?_))
        refine LS.callQ (.arr 522 K) rfl (fun n' hn' => FnS.args (concs_cons (conc_arr (fun q hq => rfl)) rfl) (spec_l03Algebra K h _ _ hK)) ?_
        (repeat first|refine zG ?_|(refine LS.nilO ?_;intro nq hnq hltq;try refine zU ?_)|(refine MS.new ?_;intro bq hbq hbqf;try refine zU ?_)|(refine MS.nil ?_;intro nq hnq hltq;have hlq:=hltq _ _ (Hp.get_eq _ _ _);clear hltq;try refine zU ?_)|(refine LS.nilQ ?_;try with_reducible intro nq hnq;try refine zU ?_))
        refine LS.callQ (.arr 8 (bys (bas j))) rfl (fun n' hn' => spec_l01Basis j _ _ (by omega)) ?_
        (repeat first|refine zG ?_|(refine LS.nilO ?_;intro nq hnq hltq;try refine zU ?_)|(refine MS.new ?_;intro bq hbq hbqf;try refine zU ?_)|(refine MS.nil ?_;intro nq hnq hltq;have hlq:=hltq _ _ (Hp.get_eq _ _ _);clear hltq;try refine zU ?_)|(refine LS.nilQ ?_;try with_reducible intro nq hnq;try refine zU ?_))
        refine LS.callQ (.arr 8 (bys (pr h.p h.m (fun y => h.s (8 * k + y)) (bas j) a))) rfl (fun n' hn' => spec_l01Times h.p a h.m (fun y => h.s (8 * k + y)) (bas j) K _ _ hp ha hk0 hk1 hk6 hB.m (hB.rows (by omega)) (bas_by _ _)) ?_
        (repeat first|refine zG ?_|(refine LS.nilO ?_;intro nq hnq hltq;try refine zU ?_)|(refine MS.new ?_;intro bq hbq hbqf;try refine zU ?_)|(refine MS.nil ?_;intro nq hnq hltq;have hlq:=hltq _ _ (Hp.get_eq _ _ _);clear hltq;try refine zU ?_)|(refine LS.nilQ ?_;try with_reducible intro nq hnq;try refine zU ?_))
        refine RS.call rfl ((spec_l01Add h.p (r (8 * j + k)) (drf h.p h.m h.s r a (8 * j + k)) (pr h.p h.m (fun y => h.s (8 * k + y)) (bas j) a) _ _ hp ((drf_res hp.1 _ _ _ _ _ 8).by hp.2) hprr (by omega)).mono ?_)
        rintro v H' n5 hn5 ⟨rfl, rfl⟩
        (repeat first|refine zG ?_|(refine LS.nilO ?_;intro nq hnq hltq;try refine zU ?_)|(refine MS.new ?_;intro bq hbq hbqf;try refine zU ?_)|(refine MS.nil ?_;intro nq hnq hltq;have hlq:=hltq _ _ (Hp.get_eq _ _ _);clear hltq;try refine zU ?_)|(refine LS.nilQ ?_;try with_reducible intro nq hnq;try refine zU ?_))
        refine ⟨by omega, by (repeat first | exact trivial | refine And.intro rfl ?_), Drops.keepc rfl rfl (fun q hq => by rw [show 8 * j + (k + 1) = 8 * j + k + 1 from rfl, ← drf_step, show (8 * j + k) / 8 = j by omega, show (8 * j + k) % 8 = k by omega]) (Drops.refl _ _), trivial⟩
      · (repeat first|refine zG ?_|(refine LS.nilO ?_;intro nq hnq hltq;try refine zU ?_)|(refine MS.new ?_;intro bq hbq hbqf;try refine zU ?_)|(refine MS.nil ?_;intro nq hnq hltq;have hlq:=hltq _ _ (Hp.get_eq _ _ _);clear hltq;try refine zU ?_)|(refine LS.nilQ ?_;try with_reducible intro nq hnq;try refine zU ?_))
        refine ⟨by omega, by (repeat first | exact trivial | refine And.intro rfl ?_), Drops.keepc rfl rfl (fun q hq => by rw [show 8 * j + (k + 1) = 8 * j + k + 1 from rfl, drf_skip h4]) (Drops.refl _ _), trivial⟩
    · have : k = a := by omega
      subst this
      (repeat first|refine zG ?_|(refine LS.nilO ?_;intro nq hnq hltq;try refine zU ?_)|(refine MS.new ?_;intro bq hbq hbqf;try refine zU ?_)|(refine MS.nil ?_;intro nq hnq hltq;have hlq:=hltq _ _ (Hp.get_eq _ _ _);clear hltq;try refine zU ?_)|(refine LS.nilQ ?_;try with_reducible intro nq hnq;try refine zU ?_))
      exact ⟨by omega, by (repeat first | exact trivial | refine And.intro rfl ?_), Drops.keepc rfl rfl (fun q hq => by rw [← drf_more (t := 8 * j + k) (t' := 8 * (j + 1)) (by omega) (fun u u1 u2 => hz.flat (by omega) (by omega))]) (Drops.refl _ _), trivial⟩
  · have : j = a := by omega
    subst this
    (repeat first|refine zG ?_|(refine LS.nilO ?_;intro nq hnq hltq;try refine zU ?_)|(refine MS.new ?_;intro bq hbq hbqf;try refine zU ?_)|(refine MS.nil ?_;intro nq hnq hltq;have hlq:=hltq _ _ (Hp.get_eq _ _ _);clear hltq;try refine zU ?_)|(refine LS.nilQ ?_;try with_reducible intro nq hnq;try refine zU ?_))
    exact ⟨.arr 8 (bys (drf h.p h.m h.s r j 64)), H, conc_arr (fun q hq => by simp only [Nat.zero_add]; rw [drf_more (t := 8 * j) (t' := 64) (by omega) (fun u u1 u2 => hz.flat (by omega) (by omega))]), by exact zD, rfl, rfl⟩
end Go.Proofs.YtbknndbfbebkdabGreatR
