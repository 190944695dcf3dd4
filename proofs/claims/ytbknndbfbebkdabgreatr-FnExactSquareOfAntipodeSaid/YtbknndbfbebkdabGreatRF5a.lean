/- Contracts of the program's functions. -/
import Derived.Test.YtbknndbfbebkdabGreatRR
import Derived.Test.YtbknndbfbebkdabGreatRLW
import Derived.Test.YtbknndbfbebkdabGreatRF4a
import Derived.Test.YtbknndbfbebkdabGreatRF4b
namespace Go.Proofs.YtbknndbfbebkdabGreatR
open Go.V
set_option linter.unusedSimpArgs false
set_option linter.unusedVariables false
set_option maxHeartbeats 4000000
/-- spec.l03Antipode -/
def ir93 : Cd := (.seq (.reg [⟨some 3,none,.box 35 (.t 0)⟩,⟨some 4,none,.box 29 (.t 1)⟩,⟨some 6,none,.mov (.c (.bool false))⟩]) (.seq (.seq (.reg [⟨some 7,none,.mov (.c (.int .i64 0))⟩]) (.block 0 (.loop (.seq (.seq (.reg [⟨some 8,none,.mov (.t 7)⟩,⟨some 9,none,.fa 1 (.t 3)⟩,⟨some 10,none,.ld none (.t 9)⟩,⟨some 11,none,.bin .lss (.t 8) (.t 10)⟩]) (.cond (.t 11) .skip (.exit 0))) (.seq (.block 1 (.seq (.drw true [15] [⟨some 14,none,.ld (some 1106) (.t 3)⟩,⟨some 15,none,.mov (.t 7)⟩,⟨some 16,none,.ld (some 64) (.t 4)⟩,⟨some 17,none,.mov (.t 2)⟩,⟨some 18,none,.call 121 [(.t 14),(.t 15),(.t 16),(.t 17)]⟩,⟨some 19,none,.fa 0 (.t 3)⟩,⟨some 20,none,.ld none (.t 19)⟩,⟨some 21,none,.build 8 [(8,(.int .u8 0))] []⟩,⟨some 22,none,.fa 2 (.t 3)⟩,⟨some 23,none,.ld (some 8) (.t 22)⟩,⟨some 24,none,.mov (.t 7)⟩,⟨some 25,none,.fa 522 (.t 3)⟩,⟨some 26,none,.ia 8 1 (.t 25) (.t 24)⟩,⟨some 27,none,.ld none (.t 26)⟩,⟨some 28,none,.cv .i64 (.t 27)⟩,⟨some 29,none,.call 47 [(.t 20),(.t 21),(.t 23),(.t 28)]⟩,⟨some 30,none,.eqa true 8 (.t 18) (.t 29)⟩]) (.cond (.t 30) (.seq (.reg [⟨some 6,none,.mov (.c (.bool false))⟩]) .ret) .skip))) (.reg [⟨some 12,none,.mov (.t 7)⟩,⟨some 13,none,.bin .add (.t 12) (.c (.int .i64 1))⟩,⟨some 7,none,.mov (.t 13)⟩])))))) (.seq (.reg [⟨some 6,none,.mov (.c (.bool true))⟩]) .ret)))
set_option maxRecDepth 100000 in
theorem tr93 : trFn Tryz.prog Tryz.f93 = some (31, ir93, [.tmp 6]) := by kernel_rfl
theorem spec_l03Antipode (h : HT) (a : Nat) (bh : Bool) (g : Nat → Nat → Int) (hg : g = if bh = true then g7 h.p h.m h.s a else g6 h.p h.m h.s a) (K : Nat → SV) (H : Hp) (n : Nat) (hS : HS h a) (hK : h.At K) (hB : h.By) :
    FnS Tryz.prog 93 [.arr 1106 K, .arr 64 (bys h.s), bl bh] H n (fun r H' _ => r = bl (tb (∀ i : Nat, i < a → ∀ q, q < 8 → fold h.p h.c i g 64 q = pl h.p (fun _ => 0) (h.e i) h.u q)) ∧ H' = H) := by
  have hp := hS.hp
  have ha := hS.ha
  have hk0 := hK.p
  have hk1 := hK.n
  rw [hS.hn] at hk1
  have hk5 := hK.e
  have hk6 := hK.u
  refine FnS.of_body Tryz.func93 tr93 (by simp) (fun hf => ?_)
  dsimp only [argEnv]
  unfold ir93
  (repeat first|refine zG ?_|(refine LS.nilO ?_;intro nq hnq hltq;try refine zU ?_)|(refine MS.new ?_;intro bq hbq hbqf;try refine zU ?_)|(refine MS.nil ?_;intro nq hnq hltq;have hlq:=hltq _ _ (Hp.get_eq _ _ _);clear hltq;try refine zU ?_)|(refine LS.nilQ ?_;try with_reducible intro nq hnq;try refine zU ?_))
  refine CS.iter a (fun i => [(7, i64 i), (3, ptr n 0), (4, ptr (n + 1) 0), (2, bl bh)]) (fun _ => (n + 1, ⟨64, bys h.s, 29⟩) :: (n, ⟨1106, K, 35⟩) :: H)
    (fun i => ∀ i' : Nat, i' < i → ∀ q, q < 8 → fold h.p h.c i' g 64 q = pl h.p (fun _ => 0) (h.e i') h.u q) (by (repeat first | exact trivial | refine And.intro rfl ?_)) (by exact zD) (fun _ h => by omega) ?_
  intro i n1 hi hn hJ
  (repeat first|refine zG ?_|(refine LS.nilO ?_;intro nq hnq hltq;try refine zU ?_)|(refine MS.new ?_;intro bq hbq hbqf;try refine zU ?_)|(refine MS.nil ?_;intro nq hnq hltq;have hlq:=hltq _ _ (Hp.get_eq _ _ _);clear hltq;try refine zU ?_)|(refine LS.nilQ ?_;try with_reducible intro nq hnq;try refine zU ?_))
  refine zI ?_ ?_<;>intro h2
  · have hei := hB.e i (by omega)
    (repeat first|refine zG ?_|(refine LS.nilO ?_;intro nq hnq hltq;try refine zU ?_)|(refine MS.new ?_;intro bq hbq hbqf;try refine zU ?_)|(refine MS.nil ?_;intro nq hnq hltq;have hlq:=hltq _ _ (Hp.get_eq _ _ _);clear hltq;try refine zU ?_)|(refine LS.nilQ ?_;try with_reducible intro nq hnq;try refine zU ?_))
    refine LS.callQ (.arr 8 (bys (fold h.p h.c i g 64))) rfl (fun n' hn' => spec_l03Folded h a i bh g hg (by omega) K _ _ hS hK hB) ?_
    (repeat first|refine zG ?_|(refine LS.nilO ?_;intro nq hnq hltq;try refine zU ?_)|(refine MS.new ?_;intro bq hbq hbqf;try refine zU ?_)|(refine MS.nil ?_;intro nq hnq hltq;have hlq:=hltq _ _ (Hp.get_eq _ _ _);clear hltq;try refine zU ?_)|(refine LS.nilQ ?_;try with_reducible intro nq hnq;try refine zU ?_))
    refine RS.call rfl ((spec_l01Add h.p (h.e i) (fun _ => 0) h.u _ _ hp ((isRes_zero hp.1 8).by hp.2) hB.u (by omega)).mono ?_)
    rintro r H4 n3 hn3 ⟨rfl, rfl⟩
    (repeat first|refine zG ?_|(refine LS.nilO ?_;intro nq hnq hltq;try refine zU ?_)|(refine MS.new ?_;intro bq hbq hbqf;try refine zU ?_)|(refine MS.nil ?_;intro nq hnq hltq;have hlq:=hltq _ _ (Hp.get_eq _ _ _);clear hltq;try refine zU ?_)|(refine LS.nilQ ?_;try with_reducible intro nq hnq;try refine zU ?_))
    refine zI ?_ ?_<;>intro h4
    · (repeat first|refine zG ?_|(refine LS.nilO ?_;intro nq hnq hltq;try refine zU ?_)|(refine MS.new ?_;intro bq hbq hbqf;try refine zU ?_)|(refine MS.nil ?_;intro nq hnq hltq;have hlq:=hltq _ _ (Hp.get_eq _ _ _);clear hltq;try refine zU ?_)|(refine LS.nilQ ?_;try with_reducible intro nq hnq;try refine zU ?_))
      exact ⟨_, H, rfl, by exact zD, by rw [tb_false (fun q => h4 (q i (by omega)))], rfl⟩
    · (repeat first|refine zG ?_|(refine LS.nilO ?_;intro nq hnq hltq;try refine zU ?_)|(refine MS.new ?_;intro bq hbq hbqf;try refine zU ?_)|(refine MS.nil ?_;intro nq hnq hltq;have hlq:=hltq _ _ (Hp.get_eq _ _ _);clear hltq;try refine zU ?_)|(refine LS.nilQ ?_;try with_reducible intro nq hnq;try refine zU ?_))
      refine ⟨by omega, by (repeat first | exact trivial | refine And.intro rfl ?_), by exact zD, fun j' hj' => ?_⟩
      by_cases e : j' = i
      · subst e; exact h4
      · exact hJ j' (by omega)
  · have : i = a := by omega
    subst this
    (repeat first|refine zG ?_|(refine LS.nilO ?_;intro nq hnq hltq;try refine zU ?_)|(refine MS.new ?_;intro bq hbq hbqf;try refine zU ?_)|(refine MS.nil ?_;intro nq hnq hltq;have hlq:=hltq _ _ (Hp.get_eq _ _ _);clear hltq;try refine zU ?_)|(refine LS.nilQ ?_;try with_reducible intro nq hnq;try refine zU ?_))
    exact ⟨_, H, rfl, by exact zD, by rw [tb_true hJ], rfl⟩
/-- (*impl.Hopf).turns -/
def ir78 : Cd := (.seq (.reg [⟨some 4,none,.mov (.c (.bool false))⟩]) (.seq (.seq (.reg [⟨some 7,none,.mov (.t 0)⟩,⟨some 8,none,.ck (.t 7)⟩,⟨some 9,none,.fa 1 (.t 8)⟩,⟨some 10,none,.ld none (.t 9)⟩,⟨some 11,none,.mov (.c (.int .i64 0))⟩]) (.block 0 (.loop (.seq (.reg [⟨some 12,none,.bin .lss (.t 11) (.t 10)⟩]) (.seq (.cond (.t 12) .skip (.exit 0)) (.seq (.block 1 (.seq (.reg [⟨some 13,none,.mov (.t 11)⟩,⟨some 5,none,.mov (.t 13)⟩]) (.seq (.reg [⟨some 14,none,.mov (.t 0)⟩,⟨some 15,none,.mov (.t 5)⟩,⟨some 16,none,.ck (.t 14)⟩,⟨some 17,none,.fa 530 (.t 16)⟩,⟨some 18,none,.ia 8 64 (.t 17) (.t 15)⟩,⟨some 19,none,.call 60 [(.t 18)]⟩,⟨some 6,none,.new 29 [(64,(.int .u8 0))]⟩,⟨none,none,.st 64 (.t 6) (.t 19)⟩]) (.seq (.reg [⟨some 20,none,.mov (.t 0)⟩,⟨some 21,none,.mov (.t 1)⟩,⟨some 22,none,.mov (.t 0)⟩,⟨some 23,none,.mov (.t 5)⟩,⟨some 24,none,.ck (.t 22)⟩,⟨some 25,none,.fa 530 (.t 24)⟩,⟨some 26,none,.ia 8 64 (.t 25) (.t 23)⟩,⟨some 27,none,.call 42 [(.t 20),(.t 21),(.t 26)]⟩,⟨some 28,none,.mov (.t 0)⟩,⟨some 29,none,.mov (.t 1)⟩,⟨some 30,none,.call 42 [(.t 28),(.t 6),(.t 29)]⟩,⟨some 31,none,.eqa true 64 (.t 27) (.t 30)⟩]) (.cond (.t 31) (.seq (.reg [⟨some 4,none,.mov (.c (.bool false))⟩]) .ret) .skip))))) (.reg [⟨some 32,none,.bin .add (.t 11) (.c (.int .i64 1))⟩,⟨some 11,none,.mov (.t 32)⟩]))))))) (.seq (.reg [⟨some 4,none,.mov (.c (.bool true))⟩]) .ret)))
set_option maxRecDepth 100000 in
theorem tr78 : trFn Tryz.prog Tryz.f78 = some (33, ir78, [.tmp 4]) := by kernel_rfl
theorem Hopf_turns (h : HT) (a : Nat) (s : Nat → Int) (b bs os : Nat) (K Ks : Blk) (H : Hp) (n : Nat) (hS : HS h a) (hb : H.get b = some K) (hsz : K.size = 1106) (hK : h.At K.c) (hB : h.By)
    (hbs : H.get bs = some Ks) (ho : os + 64 ≤ Ks.size) (hc : ∀ i, i < 64 → Ks.c (os + i) = .int .u8 (s i)) (hs : isBy 64 s) :
    FnS Tryz.prog 78 [ptr b 0, ptr bs os] H n (fun r H' _ => r = bl (tb (tur h a s)) ∧ H' = H) := by
  have hp := hS.hp
  have ha := hS.ha
  have hk1 := hK.n
  rw [hS.hn] at hk1
  have hk6 := hK.c
  refine FnS.of_body Tryz.func78 tr78 (by simp) (fun hf => ?_)
  dsimp only [argEnv]
  unfold ir78
  have hbn := getlt hf hb
  have hbn2 := getlt hf hbs
  (repeat first|refine zG ?_|(refine LS.nilO ?_;intro nq hnq hltq;try refine zU ?_)|(refine MS.new ?_;intro bq hbq hbqf;try refine zU ?_)|(refine MS.nil ?_;intro nq hnq hltq;have hlq:=hltq _ _ (Hp.get_eq _ _ _);clear hltq;try refine zU ?_)|(refine LS.nilQ ?_;try with_reducible intro nq hnq;try refine zU ?_))
  refine CS.iter a (fun i => [(11, i64 i), (10, i64 a), (0, ptr b 0), (1, ptr bs os)]) (fun _ => H)
    (fun i => Bx (∀ i' : Nat, i' < i → ∀ q, q < 64 → ten h.p h.m s (fun q => h.c (64 * i' + q)) q = ten h.p h.m (trn (fun q => h.c (64 * i' + q))) s q)) (by (repeat first | exact trivial | refine And.intro rfl ?_)) (by exact zD) ⟨fun _ h => by omega⟩ ?_
  intro i n1 hi hn hJ
  (repeat first|refine zG ?_|(refine LS.nilO ?_;intro nq hnq hltq;try refine zU ?_)|(refine MS.new ?_;intro bq hbq hbqf;try refine zU ?_)|(refine MS.nil ?_;intro nq hnq hltq;have hlq:=hltq _ _ (Hp.get_eq _ _ _);clear hltq;try refine zU ?_)|(refine LS.nilQ ?_;try with_reducible intro nq hnq;try refine zU ?_))
  refine zI ?_ ?_<;>intro h2
  · have hr := hB.rowc (i := i) (by omega)
    have hr2 : isBy 64 (trn (fun q => h.c (64 * i + q))) := fun q hq => hr _ (by omega)
    (repeat first|refine zG ?_|(refine LS.nilO ?_;intro nq hnq hltq;try refine zU ?_)|(refine MS.new ?_;intro bq hbq hbqf;try refine zU ?_)|(refine MS.nil ?_;intro nq hnq hltq;have hlq:=hltq _ _ (Hp.get_eq _ _ _);clear hltq;try refine zU ?_)|(refine LS.nilQ ?_;try with_reducible intro nq hnq;try refine zU ?_))
    refine RS.call rfl ((impl_transposed (fun q => h.c (64 * i + q)) b (530 + 64 * i) K _ _ (by exact zH) (by omega) (fun q hq => by rw [Nat.add_assoc]; exact hk6 _ (by omega))).mono ?_)
    rintro r H n2 hn2 ⟨rfl, rfl⟩
    (repeat first|refine zG ?_|(refine LS.nilO ?_;intro nq hnq hltq;try refine zU ?_)|(refine MS.new ?_;intro bq hbq hbqf;try refine zU ?_)|(refine MS.nil ?_;intro nq hnq hltq;have hlq:=hltq _ _ (Hp.get_eq _ _ _);clear hltq;try refine zU ?_)|(refine LS.nilQ ?_;try with_reducible intro nq hnq;try refine zU ?_))
    obtain ⟨x1, hx1⟩ : ∃ x, x = ten h.p h.m s (fun q => h.c (64 * i + q)) := ⟨_, rfl⟩
    obtain ⟨x2, hx2⟩ : ∃ x, x = ten h.p h.m (trn (fun q => h.c (64 * i + q))) s := ⟨_, rfl⟩
    refine RS.call rfl ((Hopf_tensor h a s (fun q => h.c (64 * i + q)) b bs os b (530 + 64 * i) K Ks K _ _ hS (by exact zH) hsz hK hB hs hr (by exact zH) ho hc (by exact zH) (by omega) (fun q hq => by rw [Nat.add_assoc]; exact hk6 _ (by omega))).mono ?_)
    rw [← hx1]
    rintro r H' n3 hn3 ⟨rfl, rfl⟩
    (repeat first|refine zG ?_|(refine LS.nilO ?_;intro nq hnq hltq;try refine zU ?_)|(refine MS.new ?_;intro bq hbq hbqf;try refine zU ?_)|(refine MS.nil ?_;intro nq hnq hltq;have hlq:=hltq _ _ (Hp.get_eq _ _ _);clear hltq;try refine zU ?_)|(refine LS.nilQ ?_;try with_reducible intro nq hnq;try refine zU ?_))
    refine RS.call rfl ((Hopf_tensor h a (trn (fun q => h.c (64 * i + q))) s b n2 0 bs os K ⟨64, bys (trn (fun q => h.c (64 * i + q))), 29⟩ Ks _ _ hS (by exact zH) hsz hK hB hr2 hs (by exact zH) (by simp) (fun q hq => by rw [Nat.zero_add]; rfl) (by exact zH) ho hc).mono ?_)
    rw [← hx2]
    rintro r H' n4 hn4 ⟨rfl, rfl⟩
    (repeat first|refine zG ?_|(refine LS.nilO ?_;intro nq hnq hltq;try refine zU ?_)|(refine MS.new ?_;intro bq hbq hbqf;try refine zU ?_)|(refine MS.nil ?_;intro nq hnq hltq;have hlq:=hltq _ _ (Hp.get_eq _ _ _);clear hltq;try refine zU ?_)|(refine LS.nilQ ?_;try with_reducible intro nq hnq;try refine zU ?_))
    refine zI ?_ ?_<;>intro h4
    · (repeat first|refine zG ?_|(refine LS.nilO ?_;intro nq hnq hltq;try refine zU ?_)|(refine MS.new ?_;intro bq hbq hbqf;try refine zU ?_)|(refine MS.nil ?_;intro nq hnq hltq;have hlq:=hltq _ _ (Hp.get_eq _ _ _);clear hltq;try refine zU ?_)|(refine LS.nilQ ?_;try with_reducible intro nq hnq;try refine zU ?_))
      exact ⟨_, H, rfl, by exact zD, by rw [tb_false (fun q : tur h a s => h4 (by rw [hx1, hx2]; exact q i (by omega)))], rfl⟩
    · (repeat first|refine zG ?_|(refine LS.nilO ?_;intro nq hnq hltq;try refine zU ?_)|(refine MS.new ?_;intro bq hbq hbqf;try refine zU ?_)|(refine MS.nil ?_;intro nq hnq hltq;have hlq:=hltq _ _ (Hp.get_eq _ _ _);clear hltq;try refine zU ?_)|(refine LS.nilQ ?_;try with_reducible intro nq hnq;try refine zU ?_))
      refine ⟨by omega, by (repeat first | exact trivial | refine And.intro rfl ?_), by exact zD, ⟨fun i' hi' => ?_⟩⟩
      by_cases e : i' = i
      · subst e; rw [← hx1, ← hx2]; exact h4
      · exact hJ.1 i' (by omega)
  · have : i = a := by omega
    subst this
    (repeat first|refine zG ?_|(refine LS.nilO ?_;intro nq hnq hltq;try refine zU ?_)|(refine MS.new ?_;intro bq hbq hbqf;try refine zU ?_)|(refine MS.nil ?_;intro nq hnq hltq;have hlq:=hltq _ _ (Hp.get_eq _ _ _);clear hltq;try refine zU ?_)|(refine LS.nilQ ?_;try with_reducible intro nq hnq;try refine zU ?_))
    exact ⟨_, H, rfl, by exact zD, by rw [tb_true (show tur h i s from hJ.1)], rfl⟩
/-- spec.l09Product -/
def ir74 : Cd := (.seq (.reg [⟨some 3,none,.box 35 (.t 0)⟩,⟨some 4,none,.box 33 (.t 1)⟩,⟨some 5,none,.box 33 (.t 2)⟩,⟨some 6,none,.new 33 [(512,(.int .u8 0))]⟩]) (.seq (.reg [⟨some 15,none,.fa 1 (.t 3)⟩,⟨some 16,none,.ld none (.t 15)⟩,⟨some 17,none,.build 512 [(512,(.int .u8 0))] []⟩,⟨some 8,none,.new 33 [(512,(.int .u8 0))]⟩,⟨some 7,none,.mov (.t 16)⟩,⟨none,none,.st 512 (.t 8) (.t 17)⟩]) (.seq (.seq (.reg [⟨some 9,none,.mov (.c (.int .i64 0))⟩]) (.block 0 (.loop (.seq (.seq (.reg [⟨some 18,none,.mov (.t 9)⟩,⟨some 19,none,.mov (.t 7)⟩,⟨some 20,none,.bin .lss (.t 18) (.t 19)⟩]) (.cond (.t 20) .skip (.exit 0))) (.seq (.block 1 (.seq (.reg [⟨some 10,none,.mov (.c (.int .i64 0))⟩]) (.block 2 (.loop (.seq (.seq (.reg [⟨some 23,none,.mov (.t 10)⟩,⟨some 24,none,.mov (.t 7)⟩,⟨some 25,none,.bin .lss (.t 23) (.t 24)⟩]) (.cond (.t 25) .skip (.exit 2))) (.seq (.block 3 (.seq (.seq (.reg [⟨some 28,none,.mov (.t 9)⟩,⟨some 29,none,.ia 8 64 (.t 4) (.t 28)⟩,⟨some 30,none,.ld (some 64) (.t 29)⟩,⟨some 31,none,.build 64 [(64,(.int .u8 0))] []⟩,⟨some 32,none,.eqa false 64 (.t 30) (.t 31)⟩,⟨some 33,none,.mov (.t 32)⟩,⟨some 34,(some (33,false)),.mov (.t 10)⟩,⟨some 35,(some (33,false)),.ia 8 64 (.t 5) (.t 34)⟩,⟨some 36,(some (33,false)),.ld (some 64) (.t 35)⟩,⟨some 37,(some (33,false)),.build 64 [(64,(.int .u8 0))] []⟩,⟨some 38,(some (33,false)),.eqa false 64 (.t 36) (.t 37)⟩,⟨some 39,none,.pick (.t 33) (.c (.bool true)) (.t 38)⟩]) (.cond (.t 39) (.exit 3) .skip)) (.seq (.mix [⟨some 40,none,.ld (some 1106) (.t 3)⟩,⟨some 41,none,.mov (.t 9)⟩,⟨some 42,none,.ia 8 64 (.t 4) (.t 41)⟩,⟨some 43,none,.ld (some 64) (.t 42)⟩,⟨some 44,none,.mov (.t 10)⟩,⟨some 45,none,.ia 8 64 (.t 5) (.t 44)⟩,⟨some 46,none,.ld (some 64) (.t 45)⟩,⟨some 47,none,.call 70 [(.t 40),(.t 43),(.t 46)]⟩] [⟨some 11,none,.new 29 [(64,(.int .u8 0))]⟩,⟨none,none,.st 64 (.t 11) (.t 47)⟩]) (.seq (.reg [⟨some 12,none,.mov (.c (.int .i64 0))⟩]) (.block 4 (.loop (.seq (.seq (.reg [⟨some 48,none,.mov (.t 12)⟩,⟨some 49,none,.mov (.t 7)⟩,⟨some 50,none,.bin .lss (.t 48) (.t 49)⟩]) (.cond (.t 50) .skip (.exit 4))) (.seq (.block 5 (.seq (.reg [⟨some 53,none,.mov (.t 9)⟩,⟨some 54,none,.mov (.t 10)⟩,⟨some 55,none,.mov (.t 12)⟩,⟨some 56,none,.fa 10 (.t 3)⟩,⟨some 57,none,.ia 8 64 (.t 56) (.t 53)⟩,⟨some 58,none,.ia 8 8 (.t 57) (.t 54)⟩,⟨some 59,none,.ia 8 1 (.t 58) (.t 55)⟩,⟨some 60,none,.ld none (.t 59)⟩,⟨some 61,none,.cv .i64 (.t 60)⟩,⟨some 13,none,.mov (.t 61)⟩]) (.seq (.reg [⟨some 14,none,.mov (.c (.int .i64 0))⟩]) (.block 6 (.loop (.seq (.seq (.reg [⟨some 62,none,.mov (.t 14)⟩,⟨some 63,none,.mov (.t 7)⟩,⟨some 64,none,.bin .lss (.t 62) (.t 63)⟩,⟨some 65,none,.mov (.t 64)⟩,⟨some 66,(some (65,true)),.mov (.t 13)⟩,⟨some 67,(some (65,true)),.bin .neq (.t 66) (.c (.int .i64 0))⟩,⟨some 68,none,.pick (.t 65) (.t 67) (.c (.bool false))⟩]) (.cond (.t 68) .skip (.exit 6))) (.seq (.block 7 (.drw true [16] [⟨some 71,none,.mov (.t 12)⟩,⟨some 72,none,.mov (.t 14)⟩,⟨some 73,none,.fa 0 (.t 3)⟩,⟨some 74,none,.ld none (.t 73)⟩,⟨some 75,none,.mov (.t 12)⟩,⟨some 76,none,.mov (.t 14)⟩,⟨some 77,none,.ia 8 64 (.t 8) (.t 75)⟩,⟨some 78,none,.ia 8 8 (.t 77) (.t 76)⟩,⟨some 79,none,.ld (some 8) (.t 78)⟩,⟨some 80,none,.mov (.t 14)⟩,⟨some 81,none,.ia 8 8 (.t 11) (.t 80)⟩,⟨some 82,none,.ld (some 8) (.t 81)⟩,⟨some 83,none,.mov (.t 13)⟩,⟨some 84,none,.call 47 [(.t 74),(.t 79),(.t 82),(.t 83)]⟩,⟨some 85,none,.ia 8 64 (.t 8) (.t 71)⟩,⟨some 86,none,.ia 8 8 (.t 85) (.t 72)⟩,⟨none,none,.st 8 (.t 86) (.t 84)⟩])) (.reg [⟨some 69,none,.mov (.t 14)⟩,⟨some 70,none,.bin .add (.t 69) (.c (.int .i64 1))⟩,⟨some 14,none,.mov (.t 70)⟩])))))))) (.reg [⟨some 51,none,.mov (.t 12)⟩,⟨some 52,none,.bin .add (.t 51) (.c (.int .i64 1))⟩,⟨some 12,none,.mov (.t 52)⟩]))))))))) (.reg [⟨some 26,none,.mov (.t 10)⟩,⟨some 27,none,.bin .add (.t 26) (.c (.int .i64 1))⟩,⟨some 10,none,.mov (.t 27)⟩]))))))) (.reg [⟨some 21,none,.mov (.t 9)⟩,⟨some 22,none,.bin .add (.t 21) (.c (.int .i64 1))⟩,⟨some 9,none,.mov (.t 22)⟩])))))) (.seq (.reg [⟨some 87,none,.ld (some 512) (.t 8)⟩,⟨none,none,.st 512 (.t 6) (.t 87)⟩]) .ret))))
set_option maxRecDepth 100000 in
theorem tr74 : trFn Tryz.prog Tryz.f74 = some (88, ir74, [.cell (some 512) 6]) := by kernel_rfl
theorem spec_l09Product (h : HT) (a : Nat) (F G : Nat → Int) (K : Nat → SV) (H : Hp) (n : Nat) (hS : HS h a) (hK : h.At K) (hB : h.By) (hF : isBy 512 F) (hG : isBy 512 G) :
    FnS Tryz.prog 74 [.arr 1106 K, .arr 512 (bys F), .arr 512 (bys G)] H n (fun r H' _ => r = .arr 512 (bys (big h.p h.m F G)) ∧ H' = H) := by
  have hp := hS.hp
  have ha := hS.ha
  have hk0 := hK.p
  have hk1 := hK.n
  rw [hS.hn] at hk1
  have hk5 := hK.m
  refine FnS.of_body Tryz.func74 tr74 (by simp) (fun hf => ?_)
  dsimp only [argEnv]
  unfold ir74
  (repeat first|refine zG ?_|(refine LS.nilO ?_;intro nq hnq hltq;try refine zU ?_)|(refine MS.new ?_;intro bq hbq hbqf;try refine zU ?_)|(refine MS.nil ?_;intro nq hnq hltq;have hlq:=hltq _ _ (Hp.get_eq _ _ _);clear hltq;try refine zU ?_)|(refine LS.nilQ ?_;try with_reducible intro nq hnq;try refine zU ?_))
  refine CS.iter a (fun i => [(9, i64 i), (3, ptr n 0), (4, ptr (n + 1) 0), (5, ptr (n + 2) 0), (6, ptr (n + 3) 0), (7, i64 a), (8, ptr (n + 4) 0)])
    (fun i => (n + 4, ⟨512, bys (bgs h.p h.m F G i 0), 33⟩) :: (n + 3, ⟨512, bys (fun _ => 0), 33⟩) :: (n + 2, ⟨512, bys G, 33⟩) :: (n + 1, ⟨512, bys F, 33⟩) :: (n, ⟨1106, K, 35⟩) :: H) (fun _ => True) (by (repeat first | exact trivial | refine And.intro rfl ?_))
    (Drops.keepc rfl rfl (fun _ _ => by rw [bgs_zero]; rfl) (Drops.keepc rfl rfl (fun _ _ => rfl) (Drops.refl _ _))) trivial ?_
  intro i n3 hi hn _
  (repeat first|refine zG ?_|(refine LS.nilO ?_;intro nq hnq hltq;try refine zU ?_)|(refine MS.new ?_;intro bq hbq hbqf;try refine zU ?_)|(refine MS.nil ?_;intro nq hnq hltq;have hlq:=hltq _ _ (Hp.get_eq _ _ _);clear hltq;try refine zU ?_)|(refine LS.nilQ ?_;try with_reducible intro nq hnq;try refine zU ?_))
  refine zI ?_ ?_<;>intro h2
  · (repeat first|refine zG ?_|(refine LS.nilO ?_;intro nq hnq hltq;try refine zU ?_)|(refine MS.new ?_;intro bq hbq hbqf;try refine zU ?_)|(refine MS.nil ?_;intro nq hnq hltq;have hlq:=hltq _ _ (Hp.get_eq _ _ _);clear hltq;try refine zU ?_)|(refine LS.nilQ ?_;try with_reducible intro nq hnq;try refine zU ?_))
    refine CS.iter a (fun j => [(10, i64 j), (9, i64 i), (3, ptr n 0), (4, ptr (n + 1) 0), (5, ptr (n + 2) 0), (6, ptr (n + 3) 0), (7, i64 a), (8, ptr (n + 4) 0)])
      (fun j => (n + 4, ⟨512, bys (bgs h.p h.m F G i j), 33⟩) :: (n + 3, ⟨512, bys (fun _ => 0), 33⟩) :: (n + 2, ⟨512, bys G, 33⟩) :: (n + 1, ⟨512, bys F, 33⟩) :: (n, ⟨1106, K, 35⟩) :: H) (fun _ => True) (by (repeat first | exact trivial | refine And.intro rfl ?_)) (Drops.refl _ _) trivial ?_
    intro j n4 hj hn4 _
    (repeat first|refine zG ?_|(refine LS.nilO ?_;intro nq hnq hltq;try refine zU ?_)|(refine MS.new ?_;intro bq hbq hbqf;try refine zU ?_)|(refine MS.nil ?_;intro nq hnq hltq;have hlq:=hltq _ _ (Hp.get_eq _ _ _);clear hltq;try refine zU ?_)|(refine LS.nilQ ?_;try with_reducible intro nq hnq;try refine zU ?_))
    refine zI ?_ ?_<;>intro h3
    · have hr : ∀ q, q < 64 → (bys F) (64 * i + q) = .int .u8 (F (64 * i + q)) := fun y hy => rfl
      have hr2 : ∀ q, q < 64 → (bys G) (64 * j + q) = .int .u8 (G (64 * j + q)) := fun y hy => rfl
      (repeat first|refine zG ?_|(refine LS.nilO ?_;intro nq hnq hltq;try refine zU ?_)|(refine MS.new ?_;intro bq hbq hbqf;try refine zU ?_)|(refine MS.nil ?_;intro nq hnq hltq;have hlq:=hltq _ _ (Hp.get_eq _ _ _);clear hltq;try refine zU ?_)|(refine LS.nilQ ?_;try with_reducible intro nq hnq;try refine zU ?_))
      refine RS.sp (t := 33) rfl (fun h4 => ?_) (fun h4 => ?_) <;> (try simp only [tb_eq, tb_eqF, decide_eq_true_eq, decide_eq_false_iff_not, beq_iff_eq, bne_iff_ne, ne_eq, Decidable.not_not, beq_eq_false_iff_ne, bne_eq_false_iff_eq, Bool.not_eq_true', Bool.not_eq_false', Bool.not_eq_eq_eq_not, Bool.not_true, Bool.not_false] at h4)
      · (repeat first|refine zG ?_|(refine LS.nilO ?_;intro nq hnq hltq;try refine zU ?_)|(refine MS.new ?_;intro bq hbq hbqf;try refine zU ?_)|(refine MS.nil ?_;intro nq hnq hltq;have hlq:=hltq _ _ (Hp.get_eq _ _ _);clear hltq;try refine zU ?_)|(refine LS.nilQ ?_;try with_reducible intro nq hnq;try refine zU ?_))
        exact ⟨by omega, by (repeat first | exact trivial | refine And.intro rfl ?_), Drops.keepc rfl rfl (fun q hq => by unfold bys; dsimp only; rw [bgs_same (by unfold bgt; rw [ten_none (.inl h4) (by omega), Int.mul_zero])]) (Drops.refl _ _), trivial⟩
      (repeat first|refine zG ?_|(refine LS.nilO ?_;intro nq hnq hltq;try refine zU ?_)|(refine MS.new ?_;intro bq hbq hbqf;try refine zU ?_)|(refine MS.nil ?_;intro nq hnq hltq;have hlq:=hltq _ _ (Hp.get_eq _ _ _);clear hltq;try refine zU ?_)|(refine LS.nilQ ?_;try with_reducible intro nq hnq;try refine zU ?_))
      refine zI ?_ ?_<;>intro h5
      · (repeat first|refine zG ?_|(refine LS.nilO ?_;intro nq hnq hltq;try refine zU ?_)|(refine MS.new ?_;intro bq hbq hbqf;try refine zU ?_)|(refine MS.nil ?_;intro nq hnq hltq;have hlq:=hltq _ _ (Hp.get_eq _ _ _);clear hltq;try refine zU ?_)|(refine LS.nilQ ?_;try with_reducible intro nq hnq;try refine zU ?_))
        exact ⟨by omega, by (repeat first | exact trivial | refine And.intro rfl ?_), Drops.keepc rfl rfl (fun q hq => by unfold bys; dsimp only; rw [bgs_same (by unfold bgt; rw [ten_none (.inr h5) (by omega), Int.mul_zero])]) (Drops.refl _ _), trivial⟩
      (repeat first|refine zG ?_|(refine LS.nilO ?_;intro nq hnq hltq;try refine zU ?_)|(refine MS.new ?_;intro bq hbq hbqf;try refine zU ?_)|(refine MS.nil ?_;intro nq hnq hltq;have hlq:=hltq _ _ (Hp.get_eq _ _ _);clear hltq;try refine zU ?_)|(refine LS.nilQ ?_;try with_reducible intro nq hnq;try refine zU ?_))
      refine LS.callQ (.arr 64 (bys (ten h.p h.m (fun z => F (64 * i + z)) (fun z => G (64 * j + z))))) rfl (fun n' hn' => FnS.args (concs_cons (conc_arr (fun q hq => rfl)) rfl) (spec_l03Pairs h a (fun z => F (64 * i + z)) (fun z => G (64 * j + z)) K _ _ hS hK hB (fun q hq => hF _ (by omega)) (fun q hq => hG _ (by omega)))) ?_
      (repeat first|refine zG ?_|(refine LS.nilO ?_;intro nq hnq hltq;try refine zU ?_)|(refine MS.new ?_;intro bq hbq hbqf;try refine zU ?_)|(refine MS.nil ?_;intro nq hnq hltq;have hlq:=hltq _ _ (Hp.get_eq _ _ _);clear hltq;try refine zU ?_)|(refine LS.nilQ ?_;try with_reducible intro nq hnq;try refine zU ?_))
      have htr : isRes h.p 64 (ten h.p h.m (fun z => F (64 * i + z)) (fun z => G (64 * j + z))) := tns_res hp.1 _ _ _ _ _ _
      have htz : ∀ q, q < 64 → 8 * a ≤ q → ten h.p h.m (fun z => F (64 * i + z)) (fun z => G (64 * j + z)) q = 0 := fun q q1 q2 => ten_zero hS.mm q1 q2
      refine CS.iter a (fun x => [(12, i64 x), (11, ptr bq 0), (10, i64 j), (9, i64 i), (3, ptr n 0), (4, ptr (n + 1) 0), (5, ptr (n + 2) 0), (6, ptr (n + 3) 0), (7, i64 a), (8, ptr (n + 4) 0)]) (fun x => (bq, ⟨64, bys (ten h.p h.m (fun z => F (64 * i + z)) (fun z => G (64 * j + z))), 29⟩) :: (n + 4, ⟨512, bys (rowsTo (bgs h.p h.m F G i j) (bgs h.p h.m F G i (j + 1)) (8 * x)), 33⟩) :: (n + 3, ⟨512, bys (fun _ => 0), 33⟩) :: (n + 2, ⟨512, bys G, 33⟩) :: (n + 1, ⟨512, bys F, 33⟩) :: (n, ⟨1106, K, 35⟩) :: H) (fun _ => True) (by (repeat first | exact trivial | refine And.intro rfl ?_))
        (Drops.keepc rfl rfl (fun _ _ => rfl) (Drops.keepc rfl rfl (fun _ _ => by rw [show rowsTo (bgs h.p h.m F G i j) (bgs h.p h.m F G i (j + 1)) (8 * 0) = bgs h.p h.m F G i j from rowsTo_zero _ _]) (Drops.refl _ _))) trivial ?_
      intro x n5 hx hn5 _
      (repeat first|refine zG ?_|(refine LS.nilO ?_;intro nq hnq hltq;try refine zU ?_)|(refine MS.new ?_;intro bq hbq hbqf;try refine zU ?_)|(refine MS.nil ?_;intro nq hnq hltq;have hlq:=hltq _ _ (Hp.get_eq _ _ _);clear hltq;try refine zU ?_)|(refine LS.nilQ ?_;try with_reducible intro nq hnq;try refine zU ?_))
      refine zI ?_ ?_<;>intro h6
      · have hfx := hB.m (64 * i + 8 * j + x) (by omega)
        (repeat first|refine zG ?_|(refine LS.nilO ?_;intro nq hnq hltq;try refine zU ?_)|(refine MS.new ?_;intro bq hbq hbqf;try refine zU ?_)|(refine MS.nil ?_;intro nq hnq hltq;have hlq:=hltq _ _ (Hp.get_eq _ _ _);clear hltq;try refine zU ?_)|(refine LS.nilQ ?_;try with_reducible intro nq hnq;try refine zU ?_))
        refine CS.iter a (fun y => [(14, i64 y), (13, i64 (h.m (64 * i + 8 * j + x))), (12, i64 x), (11, ptr bq 0), (10, i64 j), (9, i64 i), (3, ptr n 0), (4, ptr (n + 1) 0), (5, ptr (n + 2) 0), (6, ptr (n + 3) 0), (7, i64 a), (8, ptr (n + 4) 0)]) (fun y => (bq, ⟨64, bys (ten h.p h.m (fun z => F (64 * i + z)) (fun z => G (64 * j + z))), 29⟩) :: (n + 4, ⟨512, bys (rowsTo (bgs h.p h.m F G i j) (bgs h.p h.m F G i (j + 1)) (8 * x + y)), 33⟩) :: (n + 3, ⟨512, bys (fun _ => 0), 33⟩) :: (n + 2, ⟨512, bys G, 33⟩) :: (n + 1, ⟨512, bys F, 33⟩) :: (n, ⟨1106, K, 35⟩) :: H) (fun _ => True) (by (repeat first | exact trivial | refine And.intro rfl ?_)) (Drops.refl _ _) trivial ?_
        intro y n6 hy hn6 _
        (repeat first|refine zG ?_|(refine LS.nilO ?_;intro nq hnq hltq;try refine zU ?_)|(refine MS.new ?_;intro bq hbq hbqf;try refine zU ?_)|(refine MS.nil ?_;intro nq hnq hltq;have hlq:=hltq _ _ (Hp.get_eq _ _ _);clear hltq;try refine zU ?_)|(refine LS.nilQ ?_;try with_reducible intro nq hnq;try refine zU ?_))
        have hend : ∀ q, q < 512 → (y = a ∨ h.m (64 * i + 8 * j + x) = 0) → rowsTo (bgs h.p h.m F G i j) (bgs h.p h.m F G i (j + 1)) (8 * x + y) q = rowsTo (bgs h.p h.m F G i j) (bgs h.p h.m F G i (j + 1)) (8 * (x + 1)) q := fun q hq he => by
          rw [rowsTo_more (x := 8 * x + y) (y := 8 * (x + 1)) (by omega) (fun q q1 q2 => bgs_same (by
            unfold bgt
            rcases he with he | he
            · rw [htz _ (by omega) (by omega), Int.mul_zero]
            · rw [show q / 64 = x by omega, he, Int.zero_mul]))]
        refine RS.sp (t := 65) rfl (fun h7 => ?_) (fun h7 => ?_) <;> (try simp only [tb_eq, tb_eqF, decide_eq_true_eq, decide_eq_false_iff_not, beq_iff_eq, bne_iff_ne, ne_eq, Decidable.not_not, beq_eq_false_iff_ne, bne_eq_false_iff_eq, Bool.not_eq_true', Bool.not_eq_false', Bool.not_eq_eq_eq_not, Bool.not_true, Bool.not_false] at h7)
        · (repeat first|refine zG ?_|(refine LS.nilO ?_;intro nq hnq hltq;try refine zU ?_)|(refine MS.new ?_;intro bq hbq hbqf;try refine zU ?_)|(refine MS.nil ?_;intro nq hnq hltq;have hlq:=hltq _ _ (Hp.get_eq _ _ _);clear hltq;try refine zU ?_)|(refine LS.nilQ ?_;try with_reducible intro nq hnq;try refine zU ?_))
          refine zI ?_ ?_<;>intro h8
          · have hr5 : ∀ q, q < 8 → (bys (rowsTo (bgs h.p h.m F G i j) (bgs h.p h.m F G i (j + 1)) (8 * x + y))) (64 * x + 8 * y + q) = .int .u8 (bgs h.p h.m F G i j (64 * x + 8 * y + q)) := fun z hz => by simp only [bys, rowsTo]; rw [if_neg (by omega)]
            have hr6 : ∀ q, q < 8 → (bys (ten h.p h.m (fun z => F (64 * i + z)) (fun z => G (64 * j + z)))) (8 * y + q) = .int .u8 (ten h.p h.m (fun z => F (64 * i + z)) (fun z => G (64 * j + z)) (8 * y + q)) := fun z hz => rfl
            (repeat first|refine zG ?_|(refine LS.nilO ?_;intro nq hnq hltq;try refine zU ?_)|(refine MS.new ?_;intro bq hbq hbqf;try refine zU ?_)|(refine MS.nil ?_;intro nq hnq hltq;have hlq:=hltq _ _ (Hp.get_eq _ _ _);clear hltq;try refine zU ?_)|(refine LS.nilQ ?_;try with_reducible intro nq hnq;try refine zU ?_))
            refine LS.callQ (.arr 8 (bys (pl h.p (fun z => bgs h.p h.m F G i j (64 * x + 8 * y + z)) (h.m (64 * i + 8 * j + x)) (fun q => ten h.p h.m (fun z => F (64 * i + z)) (fun z => G (64 * j + z)) (8 * y + q))))) rfl (fun n' hn' => spec_l01Add h.p (h.m (64 * i + 8 * j + x)) (fun z => bgs h.p h.m F G i j (64 * x + 8 * y + z)) (fun q => ten h.p h.m (fun z => F (64 * i + z)) (fun z => G (64 * j + z)) (8 * y + q)) _ _ hp (fun z hz => (bgs_res hp.1 h.m F G i j 512).by hp.2 _ (by omega)) (fun z hz => htr.by hp.2 _ (by omega)) (by omega)) ?_
            (repeat first|refine zG ?_|(refine LS.nilO ?_;intro nq hnq hltq;try refine zU ?_)|(refine MS.new ?_;intro bq hbq hbqf;try refine zU ?_)|(refine MS.nil ?_;intro nq hnq hltq;have hlq:=hltq _ _ (Hp.get_eq _ _ _);clear hltq;try refine zU ?_)|(refine LS.nilQ ?_;try with_reducible intro nq hnq;try refine zU ?_))
            refine ⟨by omega, by (repeat first | exact trivial | refine And.intro rfl ?_), Drops.keepc rfl rfl (fun q hq => rfl) (Drops.keepc rfl rfl (fun q hq => ?_) (Drops.refl _ _)), trivial⟩
            rw [show 64 * x + 8 * y = 8 * (8 * x + y) by omega]
            refine rowsTo_step (fun z hz => ?_) q
            rw [← bgs_row _ _ _ _ _ _ _ _ _ (by omega) hz, show 8 * (8 * x + y) = 64 * x + 8 * y by omega]
          · (repeat first|refine zG ?_|(refine LS.nilO ?_;intro nq hnq hltq;try refine zU ?_)|(refine MS.new ?_;intro bq hbq hbqf;try refine zU ?_)|(refine MS.nil ?_;intro nq hnq hltq;have hlq:=hltq _ _ (Hp.get_eq _ _ _);clear hltq;try refine zU ?_)|(refine LS.nilQ ?_;try with_reducible intro nq hnq;try refine zU ?_))
            refine ⟨by omega, by (repeat first | exact trivial | refine And.intro rfl ?_), Drops.keepc rfl rfl (fun q hq => rfl) (Drops.keepc rfl rfl (fun q hq => ?_) (Drops.refl _ _)), trivial⟩
            unfold bys; dsimp only; rw [hend q hq (.inr (by omega))]
        · (repeat first|refine zG ?_|(refine LS.nilO ?_;intro nq hnq hltq;try refine zU ?_)|(refine MS.new ?_;intro bq hbq hbqf;try refine zU ?_)|(refine MS.nil ?_;intro nq hnq hltq;have hlq:=hltq _ _ (Hp.get_eq _ _ _);clear hltq;try refine zU ?_)|(refine LS.nilQ ?_;try with_reducible intro nq hnq;try refine zU ?_))
          refine ⟨by omega, by (repeat first | exact trivial | refine And.intro rfl ?_), Drops.keepc rfl rfl (fun q hq => rfl) (Drops.keepc rfl rfl (fun q hq => ?_) (Drops.refl _ _)), trivial⟩
          unfold bys; dsimp only; rw [hend q hq (.inl (by omega))]
      · have : x = a := by omega
        subst this
        (repeat first|refine zG ?_|(refine LS.nilO ?_;intro nq hnq hltq;try refine zU ?_)|(refine MS.new ?_;intro bq hbq hbqf;try refine zU ?_)|(refine MS.nil ?_;intro nq hnq hltq;have hlq:=hltq _ _ (Hp.get_eq _ _ _);clear hltq;try refine zU ?_)|(refine LS.nilQ ?_;try with_reducible intro nq hnq;try refine zU ?_))
        refine ⟨by omega, by (repeat first | exact trivial | refine And.intro rfl ?_), Drops.drop (by omega) ?_ (Drops.keepc rfl rfl (fun q hq => ?_) (Drops.refl _ _)), trivial⟩
        · simp (disch := omega) only [Hp.get_ne] at hbqf ⊢; exact hbqf
        · unfold bys; dsimp only
          rw [rowsTo_all (N := 512) (fun q q1 q2 => bgs_same (by unfold bgt; rw [hS.mm i j (q / 64) (by omega) (by omega) (by omega) (by omega), Int.zero_mul])) hq]
    · have : j = a := by omega
      subst this
      (repeat first|refine zG ?_|(refine LS.nilO ?_;intro nq hnq hltq;try refine zU ?_)|(refine MS.new ?_;intro bq hbq hbqf;try refine zU ?_)|(refine MS.nil ?_;intro nq hnq hltq;have hlq:=hltq _ _ (Hp.get_eq _ _ _);clear hltq;try refine zU ?_)|(refine LS.nilQ ?_;try with_reducible intro nq hnq;try refine zU ?_))
      exact ⟨by omega, by (repeat first | exact trivial | refine And.intro rfl ?_), Drops.keepc rfl rfl (fun q hq => by unfold bys; dsimp only; rw [bgs_a hS.mm ha (by omega) hq]) (Drops.refl _ _), trivial⟩
  · have : i = a := by omega
    subst this
    (repeat first|refine zG ?_|(refine LS.nilO ?_;intro nq hnq hltq;try refine zU ?_)|(refine MS.new ?_;intro bq hbq hbqf;try refine zU ?_)|(refine MS.nil ?_;intro nq hnq hltq;have hlq:=hltq _ _ (Hp.get_eq _ _ _);clear hltq;try refine zU ?_)|(refine LS.nilQ ?_;try with_reducible intro nq hnq;try refine zU ?_))
    exact ⟨.arr 512 (bys (big h.p h.m F G)), H, conc_arr (fun q hq => by simp only [Nat.zero_add, bys]; rw [bgs_end hS.mm ha hq]), by exact zD, rfl, rfl⟩
end Go.Proofs.YtbknndbfbebkdabGreatR
