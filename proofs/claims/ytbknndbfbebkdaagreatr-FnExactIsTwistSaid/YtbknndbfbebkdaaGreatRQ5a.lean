/- Contracts of the program's functions. -/
import Derived.Test.YtbknndbfbebkdaaGreatRR
import Derived.Test.YtbknndbfbebkdaaGreatRLW
import Derived.Test.YtbknndbfbebkdaaGreatRQ4a
import Derived.Test.YtbknndbfbebkdaaGreatRQ4b
import Derived.Test.YtbknndbfbebkdaaGreatRQ4c
namespace Go.Proofs.YtbknndbfbebkdaaGreatR
open Go.V
set_option linter.unusedSimpArgs false
set_option linter.unusedVariables false
set_option maxHeartbeats 4000000
/-- (*impl.Hopf).axiomS -/
def ir117 : Cd := (.seq (.reg [⟨some 4,none,.mov (.c (.bool false))⟩]) (.seq (.reg [⟨some 7,none,.mov (.t 0)⟩,⟨some 8,none,.call 50 [(.t 7)]⟩,⟨some 5,none,.new 77 [(2,(.int .i64 0))]⟩,⟨none,none,.st 2 (.t 5) (.t 8)⟩]) (.seq (.seq (.reg [⟨some 9,none,.fa 1 (.t 5)⟩,⟨some 10,none,.ld none (.t 9)⟩,⟨some 11,none,.mov (.c (.int .i64 0))⟩]) (.block 0 (.loop (.seq (.reg [⟨some 12,none,.bin .lss (.t 11) (.t 10)⟩]) (.seq (.cond (.t 12) .skip (.exit 0)) (.seq (.block 1 (.seq (.reg [⟨some 13,none,.mov (.t 11)⟩,⟨some 6,none,.mov (.t 13)⟩]) (.seq (.drw true [16] [⟨some 14,none,.mov (.t 0)⟩,⟨some 15,none,.mov (.t 6)⟩,⟨some 16,none,.mov (.t 1)⟩,⟨some 17,none,.call 134 [(.t 14),(.t 15),(.t 16)]⟩,⟨some 18,none,.ld (some 2) (.t 5)⟩,⟨some 19,none,.mov (.t 0)⟩,⟨some 20,none,.mov (.t 6)⟩,⟨some 21,none,.ck (.t 19)⟩,⟨some 22,none,.fa 522 (.t 21)⟩,⟨some 23,none,.ia 8 1 (.t 22) (.t 20)⟩,⟨some 24,none,.ld none (.t 23)⟩,⟨some 25,none,.cv .i64 (.t 24)⟩,⟨some 26,none,.mov (.t 0)⟩,⟨some 27,none,.ck (.t 26)⟩,⟨some 28,none,.fa 2 (.t 27)⟩,⟨some 29,none,.ld (some 8) (.t 28)⟩,⟨some 30,none,.call 100 [(.t 18),(.t 25),(.t 29)]⟩,⟨some 31,none,.eqa true 8 (.t 17) (.t 30)⟩]) (.cond (.t 31) (.seq (.reg [⟨some 4,none,.mov (.c (.bool false))⟩]) .ret) .skip)))) (.reg [⟨some 32,none,.bin .add (.t 11) (.c (.int .i64 1))⟩,⟨some 11,none,.mov (.t 32)⟩]))))))) (.seq (.reg [⟨some 4,none,.mov (.c (.bool true))⟩]) .ret))))
set_option maxRecDepth 100000 in
theorem tr117 : trFn Tryz.prog Tryz.f117 = some (33, ir117, [.tmp 4]) := by kernel_rfl
theorem Hopf_axiomS (h : HT) (a : Nat) (fp : Bool) (g : Nat → Nat → Int) (hg : g = if fp = true then g6 h.p h.m h.s a else g7 h.p h.m h.s a)
    (b : Nat) (K : Blk) (H : Hp) (n : Nat) (hS : HS h a) (hb : H.get b = some K) (hsz : K.size = 1106) (hK : h.At K.c) (hB : h.By) :
    FnS Tryz.prog 117 [ptr b 0, bl fp] H n (fun r H' _ => r = bl (tb (∀ i : Nat, i < a → ∀ q, q < 8 → fold h.p h.c i g 64 q = pl h.p (fun _ => 0) (h.e i) h.u q)) ∧ H' = H) := by
  have hp := hS.hp
  have ha := hS.ha
  have hk1 := hK.n
  rw [hS.hn] at hk1
  have hk6 := hK.e
  have hk7 := hK.u
  refine FnS.of_body Tryz.func117 tr117 (by simp) (fun hf => ?_)
  dsimp only [argEnv]
  unfold ir117
  have hbn := getlt hf hb
  (repeat first|refine zG ?_|(refine LS.nilO ?_;intro nq hnq hltq;try refine zU ?_)|(refine MS.new ?_;intro bq hbq hbqf;try refine zU ?_)|(refine MS.nil ?_;intro nq hnq hltq;have hlq:=hltq _ _ (Hp.get_eq _ _ _);clear hltq;try refine zU ?_)|(refine LS.nilQ ?_;try with_reducible intro nq hnq;try refine zU ?_))
  refine RS.call rfl ((Hopf_field h.p a b K _ _ (by exact zH) hsz hK.p hk1 (by omega)).mono ?_)
  rintro r H n2 hn2 ⟨rfl, rfl⟩
  (repeat first|refine zG ?_|(refine LS.nilO ?_;intro nq hnq hltq;try refine zU ?_)|(refine MS.new ?_;intro bq hbq hbqf;try refine zU ?_)|(refine MS.nil ?_;intro nq hnq hltq;have hlq:=hltq _ _ (Hp.get_eq _ _ _);clear hltq;try refine zU ?_)|(refine LS.nilQ ?_;try with_reducible intro nq hnq;try refine zU ?_))
  refine CS.iter a (fun i => [(11, i64 i), (10, i64 a), (5, ptr n2 0), (1, bl fp), (0, ptr b 0)]) (fun _ => (n2, ⟨2, fldC h.p a, 77⟩) :: H)
    (fun i => ∀ i' : Nat, i' < i → ∀ q, q < 8 → fold h.p h.c i' g 64 q = pl h.p (fun _ => 0) (h.e i') h.u q) (by (repeat first | exact trivial | refine And.intro rfl ?_)) (by exact zD) (fun _ h => by omega) ?_
  intro i n1 hi hn hJ
  (repeat first|refine zG ?_|(refine LS.nilO ?_;intro nq hnq hltq;try refine zU ?_)|(refine MS.new ?_;intro bq hbq hbqf;try refine zU ?_)|(refine MS.nil ?_;intro nq hnq hltq;have hlq:=hltq _ _ (Hp.get_eq _ _ _);clear hltq;try refine zU ?_)|(refine LS.nilQ ?_;try with_reducible intro nq hnq;try refine zU ?_))
  refine zI ?_ ?_<;>intro h2
  · have hei := hB.e i (by omega)
    (repeat first|refine zG ?_|(refine LS.nilO ?_;intro nq hnq hltq;try refine zU ?_)|(refine MS.new ?_;intro bq hbq hbqf;try refine zU ?_)|(refine MS.nil ?_;intro nq hnq hltq;have hlq:=hltq _ _ (Hp.get_eq _ _ _);clear hltq;try refine zU ?_)|(refine LS.nilQ ?_;try with_reducible intro nq hnq;try refine zU ?_))
    refine LS.callQ (.arr 8 (bys (fold h.p h.c i g 64))) rfl (fun n' hn' => Hopf_folded h a i fp g hg (by omega) b K _ _ hS (by exact zH) hsz hK hB) ?_
    (repeat first|refine zG ?_|(refine LS.nilO ?_;intro nq hnq hltq;try refine zU ?_)|(refine MS.new ?_;intro bq hbq hbqf;try refine zU ?_)|(refine MS.nil ?_;intro nq hnq hltq;have hlq:=hltq _ _ (Hp.get_eq _ _ _);clear hltq;try refine zU ?_)|(refine LS.nilQ ?_;try with_reducible intro nq hnq;try refine zU ?_))
    refine RS.call rfl ((field_times h.p a (h.e i) h.u _ _ hp hB.u (by omega)).mono ?_)
    rintro r H4 n3 hn3 ⟨rfl, rfl⟩
    (repeat first|refine zG ?_|(refine LS.nilO ?_;intro nq hnq hltq;try refine zU ?_)|(refine MS.new ?_;intro bq hbq hbqf;try refine zU ?_)|(refine MS.nil ?_;intro nq hnq hltq;have hlq:=hltq _ _ (Hp.get_eq _ _ _);clear hltq;try refine zU ?_)|(refine LS.nilQ ?_;try with_reducible intro nq hnq;try refine zU ?_))
    refine zI ?_ ?_<;>intro h4
    · (repeat first|refine zG ?_|(refine LS.nilO ?_;intro nq hnq hltq;try refine zU ?_)|(refine MS.new ?_;intro bq hbq hbqf;try refine zU ?_)|(refine MS.nil ?_;intro nq hnq hltq;have hlq:=hltq _ _ (Hp.get_eq _ _ _);clear hltq;try refine zU ?_)|(refine LS.nilQ ?_;try with_reducible intro nq hnq;try refine zU ?_))
      exact ⟨_, H, rfl, by exact zD, by rw [tb_false (fun q => h4 (q i (by omega)))], rfl⟩
    · (repeat first|refine zG ?_|(refine LS.nilO ?_;intro nq hnq hltq;try refine zU ?_)|(refine MS.new ?_;intro bq hbq hbqf;try refine zU ?_)|(refine MS.nil ?_;intro nq hnq hltq;have hlq:=hltq _ _ (Hp.get_eq _ _ _);clear hltq;try refine zU ?_)|(refine LS.nilQ ?_;try with_reducible intro nq hnq;try refine zU ?_))
      refine ⟨by omega, by (repeat first | exact trivial | refine And.intro rfl ?_), by exact zD, fun j' hj' => ?_⟩
      by_cases e : j' = i
      · subst e; exact h4
      · exact hJ j' (by omega)
  · have : i = a := by omega
    subst this
    (repeat first|refine zG ?_|(refine LS.nilO ?_;intro nq hnq hltq;try refine zU ?_)|(refine MS.new ?_;intro bq hbq hbqf;try refine zU ?_)|(refine MS.nil ?_;intro nq hnq hltq;have hlq:=hltq _ _ (Hp.get_eq _ _ _);clear hltq;try refine zU ?_)|(refine LS.nilQ ?_;try with_reducible intro nq hnq;try refine zU ?_))
    exact ⟨_, H, rfl, by exact zD, by rw [tb_true hJ], rfl⟩
/-- (*impl.Hopf).isCocycle -/
def ir31 : Cd := (.seq (.reg [⟨some 4,none,.mov (.c (.bool false))⟩]) (.seq (.reg [⟨some 10,none,.mov (.t 0)⟩,⟨some 11,none,.call 50 [(.t 10)]⟩,⟨some 5,none,.new 77 [(2,(.int .i64 0))]⟩,⟨none,none,.st 2 (.t 5) (.t 11)⟩]) (.seq (.seq (.reg [⟨some 12,none,.mov (.t 0)⟩,⟨some 13,none,.mov (.t 1)⟩,⟨some 14,none,.call 60 [(.t 12),(.t 13)]⟩,⟨some 15,none,.un .not (.t 14)⟩]) (.cond (.t 15) (.seq (.reg [⟨some 4,none,.mov (.c (.bool false))⟩]) .ret) .skip)) (.seq (.seq (.reg [⟨some 16,none,.fa 1 (.t 5)⟩,⟨some 17,none,.ld none (.t 16)⟩,⟨some 18,none,.mov (.c (.int .i64 0))⟩]) (.block 0 (.loop (.seq (.reg [⟨some 19,none,.bin .lss (.t 18) (.t 17)⟩]) (.seq (.cond (.t 19) .skip (.exit 0)) (.seq (.block 1 (.seq (.reg [⟨some 20,none,.mov (.t 18)⟩,⟨some 6,none,.mov (.t 20)⟩]) (.seq (.reg [⟨some 21,none,.fa 1 (.t 5)⟩,⟨some 22,none,.ld none (.t 21)⟩,⟨some 23,none,.mov (.c (.int .i64 0))⟩]) (.block 2 (.loop (.seq (.reg [⟨some 24,none,.bin .lss (.t 23) (.t 22)⟩]) (.seq (.cond (.t 24) .skip (.exit 2)) (.seq (.block 3 (.seq (.reg [⟨some 25,none,.mov (.t 23)⟩,⟨some 7,none,.mov (.t 25)⟩]) (.seq (.reg [⟨some 26,none,.fa 1 (.t 5)⟩,⟨some 27,none,.ld none (.t 26)⟩,⟨some 28,none,.mov (.c (.int .i64 0))⟩]) (.block 4 (.loop (.seq (.reg [⟨some 29,none,.bin .lss (.t 28) (.t 27)⟩]) (.seq (.cond (.t 29) .skip (.exit 4)) (.seq (.block 5 (.seq (.reg [⟨some 30,none,.mov (.t 28)⟩,⟨some 8,none,.mov (.t 30)⟩]) (.seq (.drwo true [9] [0,1,2,3,4,5,7,6,8,9,10] [⟨some 31,none,.ld (some 2) (.t 5)⟩,⟨some 32,none,.mov (.t 1)⟩,⟨some 33,none,.mov (.t 0)⟩,⟨some 34,none,.mov (.t 1)⟩,⟨some 35,none,.mov (.t 6)⟩,⟨some 36,none,.mov (.t 7)⟩,⟨some 37,none,.call 32 [(.t 33),(.t 34),(.t 35),(.t 36)]⟩,⟨some 38,none,.mov (.t 8)⟩,⟨some 39,none,.call 62 [(.t 38)]⟩,⟨some 40,none,.call 61 [(.t 31),(.t 32),(.t 37),(.t 39)]⟩,⟨some 9,none,.mov (.t 40)⟩]) (.seq (.drwo true [] [0,1,2,3,5,6,7,8,4,9,10,11] [⟨some 41,none,.mov (.t 9)⟩,⟨some 42,none,.ld (some 2) (.t 5)⟩,⟨some 43,none,.mov (.t 1)⟩,⟨some 44,none,.mov (.t 6)⟩,⟨some 45,none,.call 62 [(.t 44)]⟩,⟨some 46,none,.mov (.t 0)⟩,⟨some 47,none,.mov (.t 1)⟩,⟨some 48,none,.mov (.t 7)⟩,⟨some 49,none,.mov (.t 8)⟩,⟨some 50,none,.call 32 [(.t 46),(.t 47),(.t 48),(.t 49)]⟩,⟨some 51,none,.call 61 [(.t 42),(.t 43),(.t 45),(.t 50)]⟩,⟨some 52,none,.bin .neq (.t 41) (.t 51)⟩]) (.cond (.t 52) (.seq (.reg [⟨some 4,none,.mov (.c (.bool false))⟩]) .ret) .skip))))) (.reg [⟨some 53,none,.bin .add (.t 28) (.c (.int .i64 1))⟩,⟨some 28,none,.mov (.t 53)⟩]))))))))) (.reg [⟨some 54,none,.bin .add (.t 23) (.c (.int .i64 1))⟩,⟨some 23,none,.mov (.t 54)⟩]))))))))) (.reg [⟨some 55,none,.bin .add (.t 18) (.c (.int .i64 1))⟩,⟨some 18,none,.mov (.t 55)⟩]))))))) (.seq (.reg [⟨some 4,none,.mov (.c (.bool true))⟩]) .ret)))))
set_option maxRecDepth 100000 in
theorem tr31 : trFn Tryz.prog Tryz.f31 = some (56, ir31, [.tmp 4]) := by kernel_rfl
theorem Hopf_isCocycle (h : HT) (a : Nat) (S : Nat → Int) (b bs os : Nat) (K Ks : Blk) (H : Hp) (n : Nat) (hS : HS h a) (hb : H.get b = some K) (hsz : K.size = 1106) (hK : h.At K.c) (hB : h.By) (hSb : isBy 64 S)
    (gs : H.get bs = some Ks) (ss : os + 64 ≤ Ks.size) (cs : ∀ q, q < 64 → Ks.c (os + q) = .int .u8 (S q)) :
    FnS Tryz.prog 31 [ptr b 0, ptr bs os] H n (fun r H' _ => r = bl (tb (normed h a S ∧ cocyc h.p h.m h.c S a)) ∧ H' = H) := by
  have hp := hS.hp
  have ha := hS.ha
  have hk1 := hK.n
  rw [hS.hn] at hk1
  refine FnS.of_body Tryz.func31 tr31 (by simp) (fun hf => ?_)
  dsimp only [argEnv]
  unfold ir31
  have e0 := getlt hf hb
  have e1 := getlt hf gs
  (repeat first|refine zG ?_|(refine LS.nilO ?_;intro nq hnq hltq;try refine zU ?_)|(refine MS.new ?_;intro bq hbq hbqf;try refine zU ?_)|(refine MS.nil ?_;intro nq hnq hltq;have hlq:=hltq _ _ (Hp.get_eq _ _ _);clear hltq;try refine zU ?_)|(refine LS.nilQ ?_;try with_reducible intro nq hnq;try refine zU ?_))
  refine RS.call rfl ((Hopf_field h.p a b K _ _ (by exact zH) hsz hK.p hk1 (by omega)).mono ?_)
  rintro r H n2 hn2 ⟨rfl, rfl⟩
  (repeat first|refine zG ?_|(refine LS.nilO ?_;intro nq hnq hltq;try refine zU ?_)|(refine MS.new ?_;intro bq hbq hbqf;try refine zU ?_)|(refine MS.nil ?_;intro nq hnq hltq;have hlq:=hltq _ _ (Hp.get_eq _ _ _);clear hltq;try refine zU ?_)|(refine LS.nilQ ?_;try with_reducible intro nq hnq;try refine zU ?_))
  refine RS.call rfl ((Hopf_isNormed h a S b bs os K Ks _ _ hS (by exact zH) hsz hK hB (by exact zH) ss cs hSb).mono ?_)
  rintro r H4 n3 hn3 ⟨rfl, rfl⟩
  (repeat first|refine zG ?_|(refine LS.nilO ?_;intro nq hnq hltq;try refine zU ?_)|(refine MS.new ?_;intro bq hbq hbqf;try refine zU ?_)|(refine MS.nil ?_;intro nq hnq hltq;have hlq:=hltq _ _ (Hp.get_eq _ _ _);clear hltq;try refine zU ?_)|(refine LS.nilQ ?_;try with_reducible intro nq hnq;try refine zU ?_))
  refine zI ?_ ?_<;>intro h1
  · (repeat first|refine zG ?_|(refine LS.nilO ?_;intro nq hnq hltq;try refine zU ?_)|(refine MS.new ?_;intro bq hbq hbqf;try refine zU ?_)|(refine MS.nil ?_;intro nq hnq hltq;have hlq:=hltq _ _ (Hp.get_eq _ _ _);clear hltq;try refine zU ?_)|(refine LS.nilQ ?_;try with_reducible intro nq hnq;try refine zU ?_))
    exact ⟨_, H, rfl, by exact zD, by rw [tb_false (fun q => h1 q.1)], rfl⟩
  (repeat first|refine zG ?_|(refine LS.nilO ?_;intro nq hnq hltq;try refine zU ?_)|(refine MS.new ?_;intro bq hbq hbqf;try refine zU ?_)|(refine MS.nil ?_;intro nq hnq hltq;have hlq:=hltq _ _ (Hp.get_eq _ _ _);clear hltq;try refine zU ?_)|(refine LS.nilQ ?_;try with_reducible intro nq hnq;try refine zU ?_))
  refine CS.iter a (fun i => [(18, i64 i), (17, i64 a), (5, ptr n2 0), (0, ptr b 0), (1, ptr bs os)]) (fun _ => (n2, ⟨2, fldC h.p a, 77⟩) :: H)
    (fun i => Bx (∀ i' j k : Nat, i' < i → j < a → k < a → bil h.p S (leg h.p h.m h.c S i' j) (bas k) = bil h.p S (bas i') (leg h.p h.m h.c S j k))) (by (repeat first | exact trivial | refine And.intro rfl ?_)) (by exact zD) ⟨fun _ _ _ h => by omega⟩ ?_
  intro i n4 hi hn4 hJ
  (repeat first|refine zG ?_|(refine LS.nilO ?_;intro nq hnq hltq;try refine zU ?_)|(refine MS.new ?_;intro bq hbq hbqf;try refine zU ?_)|(refine MS.nil ?_;intro nq hnq hltq;have hlq:=hltq _ _ (Hp.get_eq _ _ _);clear hltq;try refine zU ?_)|(refine LS.nilQ ?_;try with_reducible intro nq hnq;try refine zU ?_))
  refine zI ?_ ?_<;>intro h2
  · (repeat first|refine zG ?_|(refine LS.nilO ?_;intro nq hnq hltq;try refine zU ?_)|(refine MS.new ?_;intro bq hbq hbqf;try refine zU ?_)|(refine MS.nil ?_;intro nq hnq hltq;have hlq:=hltq _ _ (Hp.get_eq _ _ _);clear hltq;try refine zU ?_)|(refine LS.nilQ ?_;try with_reducible intro nq hnq;try refine zU ?_))
    refine CS.iter a (fun j => [(23, i64 j), (22, i64 a), (6, i64 i), (18, i64 i), (17, i64 a), (5, ptr n2 0), (0, ptr b 0), (1, ptr bs os)]) (fun _ => (n2, ⟨2, fldC h.p a, 77⟩) :: H)
      (fun j => Bx (∀ j' k : Nat, j' < j → k < a → bil h.p S (leg h.p h.m h.c S i j') (bas k) = bil h.p S (bas i) (leg h.p h.m h.c S j' k))) (by (repeat first | exact trivial | refine And.intro rfl ?_)) (by exact zD) ⟨fun _ _ h => by omega⟩ ?_
    intro j n5 hj hn5 hJ2
    (repeat first|refine zG ?_|(refine LS.nilO ?_;intro nq hnq hltq;try refine zU ?_)|(refine MS.new ?_;intro bq hbq hbqf;try refine zU ?_)|(refine MS.nil ?_;intro nq hnq hltq;have hlq:=hltq _ _ (Hp.get_eq _ _ _);clear hltq;try refine zU ?_)|(refine LS.nilQ ?_;try with_reducible intro nq hnq;try refine zU ?_))
    refine zI ?_ ?_<;>intro h3
    · (repeat first|refine zG ?_|(refine LS.nilO ?_;intro nq hnq hltq;try refine zU ?_)|(refine MS.new ?_;intro bq hbq hbqf;try refine zU ?_)|(refine MS.nil ?_;intro nq hnq hltq;have hlq:=hltq _ _ (Hp.get_eq _ _ _);clear hltq;try refine zU ?_)|(refine LS.nilQ ?_;try with_reducible intro nq hnq;try refine zU ?_))
      refine CS.iter a (fun k => [(28, i64 k), (27, i64 a), (7, i64 j), (23, i64 j), (22, i64 a), (6, i64 i), (18, i64 i), (17, i64 a), (5, ptr n2 0), (0, ptr b 0), (1, ptr bs os)]) (fun _ => (n2, ⟨2, fldC h.p a, 77⟩) :: H)
        (fun k => Bx (∀ k' : Nat, k' < k → bil h.p S (leg h.p h.m h.c S i j) (bas k') = bil h.p S (bas i) (leg h.p h.m h.c S j k'))) (by (repeat first | exact trivial | refine And.intro rfl ?_)) (by exact zD) ⟨fun _ h => by omega⟩ ?_
      intro k n6 hk hn6 hJ3
      (repeat first|refine zG ?_|(refine LS.nilO ?_;intro nq hnq hltq;try refine zU ?_)|(refine MS.new ?_;intro bq hbq hbqf;try refine zU ?_)|(refine MS.nil ?_;intro nq hnq hltq;have hlq:=hltq _ _ (Hp.get_eq _ _ _);clear hltq;try refine zU ?_)|(refine LS.nilQ ?_;try with_reducible intro nq hnq;try refine zU ?_))
      refine zI ?_ ?_<;>intro h4
      · (repeat first|refine zG ?_|(refine LS.nilO ?_;intro nq hnq hltq;try refine zU ?_)|(refine MS.new ?_;intro bq hbq hbqf;try refine zU ?_)|(refine MS.nil ?_;intro nq hnq hltq;have hlq:=hltq _ _ (Hp.get_eq _ _ _);clear hltq;try refine zU ?_)|(refine LS.nilQ ?_;try with_reducible intro nq hnq;try refine zU ?_))
        refine CS.quietLo ?_
        (repeat first|refine zG ?_|(refine LS.nilO ?_;intro nq hnq hltq;try refine zU ?_)|(refine MS.new ?_;intro bq hbq hbqf;try refine zU ?_)|(refine MS.nil ?_;intro nq hnq hltq;have hlq:=hltq _ _ (Hp.get_eq _ _ _);clear hltq;try refine zU ?_)|(refine LS.nilQ ?_;try with_reducible intro nq hnq;try refine zU ?_))
        refine LS.callQ (.arr 8 (bys (leg h.p h.m h.c S i j))) rfl (fun n' hn' => Hopf_legProduct h a S i j (by omega) (by omega) b bs os K Ks _ _ hS (by exact zH) hsz hK hB hSb (by exact zH) ss cs) ?_
        (repeat first|refine zG ?_|(refine LS.nilO ?_;intro nq hnq hltq;try refine zU ?_)|(refine MS.new ?_;intro bq hbq hbqf;try refine zU ?_)|(refine MS.nil ?_;intro nq hnq hltq;have hlq:=hltq _ _ (Hp.get_eq _ _ _);clear hltq;try refine zU ?_)|(refine LS.nilQ ?_;try with_reducible intro nq hnq;try refine zU ?_))
        refine LS.callQ (.arr 8 (bys (bas k))) rfl (fun n' hn' => impl_basis k _ _ (by omega)) ?_
        (repeat first|refine zG ?_|(refine LS.nilO ?_;intro nq hnq hltq;try refine zU ?_)|(refine MS.new ?_;intro bq hbq hbqf;try refine zU ?_)|(refine MS.nil ?_;intro nq hnq hltq;have hlq:=hltq _ _ (Hp.get_eq _ _ _);clear hltq;try refine zU ?_)|(refine LS.nilQ ?_;try with_reducible intro nq hnq;try refine zU ?_))
        obtain ⟨x1, hx1⟩ : ∃ x, x = bil h.p S (leg h.p h.m h.c S i j) (bas k) := ⟨_, rfl⟩
        obtain ⟨x2, hx2⟩ : ∃ x, x = bil h.p S (bas i) (leg h.p h.m h.c S j k) := ⟨_, rfl⟩
        refine LS.callQ (i64 x1) rfl (fun n' hn' => by rw [hx1]; exact field_paired h.p a S (leg h.p h.m h.c S i j) (bas k) bs os Ks _ _ hp (by exact zH) ss cs hSb ((lg_res hp.1 _ _ _ _ _ _ _ 8).by hp.2) (bas_by _ _)) ?_
        (repeat first|refine zG ?_|(refine LS.nilO ?_;intro nq hnq hltq;try refine zU ?_)|(refine MS.new ?_;intro bq hbq hbqf;try refine zU ?_)|(refine MS.nil ?_;intro nq hnq hltq;have hlq:=hltq _ _ (Hp.get_eq _ _ _);clear hltq;try refine zU ?_)|(refine LS.nilQ ?_;try with_reducible intro nq hnq;try refine zU ?_))
        refine CS.quietLo ?_
        (repeat first|refine zG ?_|(refine LS.nilO ?_;intro nq hnq hltq;try refine zU ?_)|(refine MS.new ?_;intro bq hbq hbqf;try refine zU ?_)|(refine MS.nil ?_;intro nq hnq hltq;have hlq:=hltq _ _ (Hp.get_eq _ _ _);clear hltq;try refine zU ?_)|(refine LS.nilQ ?_;try with_reducible intro nq hnq;try refine zU ?_))
        refine LS.callQ (.arr 8 (bys (bas i))) rfl (fun n' hn' => impl_basis i _ _ (by omega)) ?_
        (repeat first|refine zG ?_|(refine LS.nilO ?_;intro nq hnq hltq;try refine zU ?_)|(refine MS.new ?_;intro bq hbq hbqf;try refine zU ?_)|(refine MS.nil ?_;intro nq hnq hltq;have hlq:=hltq _ _ (Hp.get_eq _ _ _);clear hltq;try refine zU ?_)|(refine LS.nilQ ?_;try with_reducible intro nq hnq;try refine zU ?_))
        refine LS.callQ (.arr 8 (bys (leg h.p h.m h.c S j k))) rfl (fun n' hn' => Hopf_legProduct h a S j k (by omega) (by omega) b bs os K Ks _ _ hS (by exact zH) hsz hK hB hSb (by exact zH) ss cs) ?_
        (repeat first|refine zG ?_|(refine LS.nilO ?_;intro nq hnq hltq;try refine zU ?_)|(refine MS.new ?_;intro bq hbq hbqf;try refine zU ?_)|(refine MS.nil ?_;intro nq hnq hltq;have hlq:=hltq _ _ (Hp.get_eq _ _ _);clear hltq;try refine zU ?_)|(refine LS.nilQ ?_;try with_reducible intro nq hnq;try refine zU ?_))
        refine LS.callQ (i64 x2) rfl (fun n' hn' => by rw [hx2]; exact field_paired h.p a S (bas i) (leg h.p h.m h.c S j k) bs os Ks _ _ hp (by exact zH) ss cs hSb (bas_by _ _) ((lg_res hp.1 _ _ _ _ _ _ _ 8).by hp.2)) ?_
        (repeat first|refine zG ?_|(refine LS.nilO ?_;intro nq hnq hltq;try refine zU ?_)|(refine MS.new ?_;intro bq hbq hbqf;try refine zU ?_)|(refine MS.nil ?_;intro nq hnq hltq;have hlq:=hltq _ _ (Hp.get_eq _ _ _);clear hltq;try refine zU ?_)|(refine LS.nilQ ?_;try with_reducible intro nq hnq;try refine zU ?_))
        refine zI ?_ ?_<;>intro h5
        · (repeat first|refine zG ?_|(refine LS.nilO ?_;intro nq hnq hltq;try refine zU ?_)|(refine MS.new ?_;intro bq hbq hbqf;try refine zU ?_)|(refine MS.nil ?_;intro nq hnq hltq;have hlq:=hltq _ _ (Hp.get_eq _ _ _);clear hltq;try refine zU ?_)|(refine LS.nilQ ?_;try with_reducible intro nq hnq;try refine zU ?_))
          exact ⟨_, H, rfl, by exact zD, by rw [tb_false (fun q => h5 (by rw [hx1, hx2]; exact q.2 i j k (by omega) (by omega) (by omega)))], rfl⟩
        · (repeat first|refine zG ?_|(refine LS.nilO ?_;intro nq hnq hltq;try refine zU ?_)|(refine MS.new ?_;intro bq hbq hbqf;try refine zU ?_)|(refine MS.nil ?_;intro nq hnq hltq;have hlq:=hltq _ _ (Hp.get_eq _ _ _);clear hltq;try refine zU ?_)|(refine LS.nilQ ?_;try with_reducible intro nq hnq;try refine zU ?_))
          refine ⟨by omega, by (repeat first | exact trivial | refine And.intro rfl ?_), by exact zD, ⟨fun k' hk' => ?_⟩⟩
          by_cases e : k' = k
          · subst e; rw [← hx1, ← hx2]; exact h5
          · exact hJ3.1 k' (by omega)
      · have : k = a := by omega
        subst this
        (repeat first|refine zG ?_|(refine LS.nilO ?_;intro nq hnq hltq;try refine zU ?_)|(refine MS.new ?_;intro bq hbq hbqf;try refine zU ?_)|(refine MS.nil ?_;intro nq hnq hltq;have hlq:=hltq _ _ (Hp.get_eq _ _ _);clear hltq;try refine zU ?_)|(refine LS.nilQ ?_;try with_reducible intro nq hnq;try refine zU ?_))
        refine ⟨by omega, by (repeat first | exact trivial | refine And.intro rfl ?_), by exact zD, ⟨fun j' k' hj' => ?_⟩⟩
        by_cases e : j' = j
        · subst e; exact fun hk' => hJ3.1 k' hk'
        · exact hJ2.1 j' k' (by omega)
    · have : j = a := by omega
      subst this
      (repeat first|refine zG ?_|(refine LS.nilO ?_;intro nq hnq hltq;try refine zU ?_)|(refine MS.new ?_;intro bq hbq hbqf;try refine zU ?_)|(refine MS.nil ?_;intro nq hnq hltq;have hlq:=hltq _ _ (Hp.get_eq _ _ _);clear hltq;try refine zU ?_)|(refine LS.nilQ ?_;try with_reducible intro nq hnq;try refine zU ?_))
      refine ⟨by omega, by (repeat first | exact trivial | refine And.intro rfl ?_), by exact zD, ⟨fun i' j' k' hi' => ?_⟩⟩
      by_cases e : i' = i
      · subst e; exact fun hj' hk' => hJ2.1 j' k' hj' hk'
      · exact hJ.1 i' j' k' (by omega)
  · have : i = a := by omega
    subst this
    (repeat first|refine zG ?_|(refine LS.nilO ?_;intro nq hnq hltq;try refine zU ?_)|(refine MS.new ?_;intro bq hbq hbqf;try refine zU ?_)|(refine MS.nil ?_;intro nq hnq hltq;have hlq:=hltq _ _ (Hp.get_eq _ _ _);clear hltq;try refine zU ?_)|(refine LS.nilQ ?_;try with_reducible intro nq hnq;try refine zU ?_))
    exact ⟨_, H, rfl, by exact zD, by rw [tb_true (show normed h i S ∧ cocyc h.p h.m h.c S i from ⟨h1, hJ.1⟩)], rfl⟩
/-- (*impl.Hopf).timesLast -/
def ir55 : Cd := (.seq (.reg [⟨some 6,none,.new 33 [(512,(.int .u8 0))]⟩]) (.seq (.reg [⟨some 9,none,.build 512 [(512,(.int .u8 0))] []⟩,⟨some 7,none,.new 33 [(512,(.int .u8 0))]⟩,⟨none,none,.st 512 (.t 7) (.t 9)⟩]) (.seq (.seq (.reg [⟨some 10,none,.mov (.t 0)⟩,⟨some 11,none,.ck (.t 10)⟩,⟨some 12,none,.fa 1 (.t 11)⟩,⟨some 13,none,.ld none (.t 12)⟩,⟨some 14,none,.mov (.c (.int .i64 0))⟩]) (.block 0 (.loop (.seq (.reg [⟨some 15,none,.bin .lss (.t 14) (.t 13)⟩]) (.seq (.cond (.t 15) .skip (.exit 0)) (.seq (.block 1 (.seq (.reg [⟨some 16,none,.mov (.t 14)⟩,⟨some 8,none,.mov (.t 16)⟩]) (.reg [⟨some 17,none,.mov (.t 8)⟩,⟨some 18,none,.mov (.t 0)⟩,⟨some 19,none,.mov (.t 1)⟩,⟨some 20,none,.mov (.t 2)⟩,⟨some 21,none,.mov (.t 8)⟩,⟨some 22,none,.ck (.t 20)⟩,⟨some 23,none,.ia 8 64 (.t 22) (.t 21)⟩,⟨some 24,none,.call 42 [(.t 18),(.t 19),(.t 23)]⟩,⟨some 25,none,.ia 8 64 (.t 7) (.t 17)⟩,⟨none,none,.st 64 (.t 25) (.t 24)⟩]))) (.reg [⟨some 26,none,.bin .add (.t 14) (.c (.int .i64 1))⟩,⟨some 14,none,.mov (.t 26)⟩]))))))) (.seq (.reg [⟨some 27,none,.ld (some 512) (.t 7)⟩,⟨none,none,.st 512 (.t 6) (.t 27)⟩]) .ret))))
set_option maxRecDepth 100000 in
theorem tr55 : trFn Tryz.prog Tryz.f55 = some (28, ir55, [.cell (some 512) 6]) := by kernel_rfl
theorem Hopf_timesLast (h : HT) (a : Nat) (S T : Nat → Int) (b bs os bT oT : Nat) (K Ks KT : Blk) (H : Hp) (n : Nat) (hS : HS h a) (hb : H.get b = some K) (hsz : K.size = 1106) (hK : h.At K.c) (hB : h.By) (hs : isBy 64 S) (hT : isBy 512 T)
    (hbs : H.get bs = some Ks) (ho : os + 64 ≤ Ks.size) (hc : ∀ i, i < 64 → Ks.c (os + i) = .int .u8 (S i))
    (gT : H.get bT = some KT) (sT : oT + 512 ≤ KT.size) (cT : ∀ q, q < 512 → KT.c (oT + q) = .int .u8 (T q)) (hz : ∀ q, 64 * a ≤ q → q < 512 → tml h.p h.m S T q = 0) :
    FnS Tryz.prog 55 [ptr b 0, ptr bs os, ptr bT oT] H n (fun r H' _ => r = .arr 512 (bys (tml h.p h.m S T)) ∧ H' = H) := by
  have hp := hS.hp
  have ha := hS.ha
  have hk1 := hK.n
  rw [hS.hn] at hk1
  refine FnS.of_body Tryz.func55 tr55 (by simp) (fun hf => ?_)
  dsimp only [argEnv]
  unfold ir55
  have hbn := getlt hf hb
  have hbn2 := getlt hf hbs
  have hbn3 := getlt hf gT
  (repeat first|refine zG ?_|(refine LS.nilO ?_;intro nq hnq hltq;try refine zU ?_)|(refine MS.new ?_;intro bq hbq hbqf;try refine zU ?_)|(refine MS.nil ?_;intro nq hnq hltq;have hlq:=hltq _ _ (Hp.get_eq _ _ _);clear hltq;try refine zU ?_)|(refine LS.nilQ ?_;try with_reducible intro nq hnq;try refine zU ?_))
  refine CS.iter a (fun i => [(14, i64 i), (13, i64 a), (0, ptr b 0), (1, ptr bs os), (2, ptr bT oT), (6, ptr n 0), (7, ptr (n + 1) 0)])
    (fun i => (n + 1, ⟨512, bys (tabsTo (fun _ => 0) (tml h.p h.m S T) i), 33⟩) :: (n, ⟨512, bys (fun _ => 0), 33⟩) :: H) (fun _ => True) (by (repeat first | exact trivial | refine And.intro rfl ?_))
    (Drops.keepc rfl rfl (fun _ _ => by rw [tabsTo_zero]; rfl) (Drops.keepc rfl rfl (fun _ _ => rfl) (Drops.refl _ _))) trivial ?_
  intro i n1 hi hn1 _
  (repeat first|refine zG ?_|(refine LS.nilO ?_;intro nq hnq hltq;try refine zU ?_)|(refine MS.new ?_;intro bq hbq hbqf;try refine zU ?_)|(refine MS.nil ?_;intro nq hnq hltq;have hlq:=hltq _ _ (Hp.get_eq _ _ _);clear hltq;try refine zU ?_)|(refine LS.nilQ ?_;try with_reducible intro nq hnq;try refine zU ?_))
  refine zI ?_ ?_<;>intro h1
  · (repeat first|refine zG ?_|(refine LS.nilO ?_;intro nq hnq hltq;try refine zU ?_)|(refine MS.new ?_;intro bq hbq hbqf;try refine zU ?_)|(refine MS.nil ?_;intro nq hnq hltq;have hlq:=hltq _ _ (Hp.get_eq _ _ _);clear hltq;try refine zU ?_)|(refine LS.nilQ ?_;try with_reducible intro nq hnq;try refine zU ?_))
    refine RS.call rfl ((Hopf_tensor h a S (fun q => T (64 * i + q)) b bs os bT (oT + 64 * i) K Ks KT _ _ hS (by exact zH) hsz hK hB hs (fun q hq => hT _ (by omega)) (by exact zH) ho hc (by exact zH) (by omega) (fun q hq => by rw [Nat.add_assoc]; exact cT _ (by omega))).mono ?_)
    rintro r H' n2 hn2 ⟨rfl, rfl⟩
    (repeat first|refine zG ?_|(refine LS.nilO ?_;intro nq hnq hltq;try refine zU ?_)|(refine MS.new ?_;intro bq hbq hbqf;try refine zU ?_)|(refine MS.nil ?_;intro nq hnq hltq;have hlq:=hltq _ _ (Hp.get_eq _ _ _);clear hltq;try refine zU ?_)|(refine LS.nilQ ?_;try with_reducible intro nq hnq;try refine zU ?_))
    refine ⟨by omega, by (repeat first | exact trivial | refine And.intro rfl ?_), Drops.keepc rfl rfl (fun q hq => tabsTo_step (fun y hy => ?_) q) (Drops.refl _ _), trivial⟩
    unfold tml
    rw [show (64 * i + y) / 64 = i by omega, show (64 * i + y) % 64 = y by omega]
  · have : i = a := by omega
    subst this
    (repeat first|refine zG ?_|(refine LS.nilO ?_;intro nq hnq hltq;try refine zU ?_)|(refine MS.new ?_;intro bq hbq hbqf;try refine zU ?_)|(refine MS.nil ?_;intro nq hnq hltq;have hlq:=hltq _ _ (Hp.get_eq _ _ _);clear hltq;try refine zU ?_)|(refine LS.nilQ ?_;try with_reducible intro nq hnq;try refine zU ?_))
    exact ⟨.arr 512 (bys (tml h.p h.m S T)), H, conc_arr (fun q hq => by
      simp only [Nat.zero_add, bys, tabsTo]
      split
      · rfl
      · rw [hz q (by omega) hq]), by exact zD, rfl, rfl⟩
end Go.Proofs.YtbknndbfbebkdaaGreatR
