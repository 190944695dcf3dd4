/- Contracts of the program's functions. -/
import Derived.Test.YtbknndbfbebkdabGreatRR
import Derived.Test.YtbknndbfbebkdabGreatRLW
import Derived.Test.YtbknndbfbebkdabGreatRF3a
import Derived.Test.YtbknndbfbebkdabGreatRF3b
import Derived.Test.YtbknndbfbebkdabGreatRF3c
namespace Go.Proofs.YtbknndbfbebkdabGreatR
open Go.V
set_option linter.unusedSimpArgs false
set_option linter.unusedVariables false
set_option maxHeartbeats 4000000
/-- (*impl.Algebra).isShaped -/
def ir101 : Cd := (.seq (.reg [⟨some 2,none,.mov (.c (.bool false))⟩]) (.seq (.drw true [25] [⟨some 3,none,.mov (.t 0)⟩,⟨some 4,none,.ck (.t 3)⟩,⟨some 5,none,.fa 0 (.t 4)⟩,⟨some 6,none,.ld none (.t 5)⟩,⟨some 7,none,.mov (.t 0)⟩,⟨some 8,none,.ck (.t 7)⟩,⟨some 9,none,.fa 1 (.t 8)⟩,⟨some 10,none,.ld none (.t 9)⟩,⟨some 11,none,.mov (.t 0)⟩,⟨some 12,none,.ck (.t 11)⟩,⟨some 13,none,.fa 2 (.t 12)⟩,⟨some 14,none,.ld (some 8) (.t 13)⟩,⟨some 15,none,.call 88 [(.t 6),(.t 10),(.t 14)]⟩,⟨some 16,none,.mov (.t 15)⟩,⟨some 17,(some (16,true)),.mov (.t 0)⟩,⟨some 18,(some (16,true)),.ck (.t 17)⟩,⟨some 19,(some (16,true)),.fa 0 (.t 18)⟩,⟨some 20,(some (16,true)),.ld none (.t 19)⟩,⟨some 21,(some (16,true)),.mov (.t 0)⟩,⟨some 22,(some (16,true)),.ck (.t 21)⟩,⟨some 23,(some (16,true)),.fa 1 (.t 22)⟩,⟨some 24,(some (16,true)),.ld none (.t 23)⟩,⟨some 25,(some (16,true)),.mov (.t 0)⟩,⟨some 26,(some (16,true)),.ck (.t 25)⟩,⟨some 27,(some (16,true)),.fa 10 (.t 26)⟩,⟨some 28,(some (16,true)),.call 123 [(.t 20),(.t 24),(.t 27)]⟩,⟨some 29,none,.pick (.t 16) (.t 28) (.c (.bool false))⟩,⟨some 2,none,.mov (.t 29)⟩]) .ret))
set_option maxRecDepth 100000 in
theorem tr101 : trFn Tryz.prog Tryz.f101 = some (30, ir101, [.tmp 2]) := by kernel_rfl
theorem Algebra_isShaped (p n' : Int) (u m : Nat → Int) (b : Nat) (K : Blk) (H : Hp) (n : Nat) (hb : H.get b = some K) (hsz : K.size = 522) (h0 : K.c 0 = .int .i64 p) (h1 : K.c 1 = .int .i64 n')
    (hU : ∀ q, q < 8 → K.c (2 + q) = .int .u8 (u q)) (hK : ∀ q, q < 512 → K.c (10 + q) = .int .u8 (m q)) (hu : isBy 8 u) (hm : isBy 512 m) :
    FnS Tryz.prog 101 [ptr b 0] H n (fun v H' _ => v = bl (tb (shp p n' u m)) ∧ H' = H) := by
  refine FnS.of_body Tryz.func101 tr101 (by simp) (fun hf => ?_)
  dsimp only [argEnv]
  unfold ir101
  have hbn := getlt hf hb
  (repeat first|refine zG ?_|(refine LS.nilO ?_;intro nq hnq hltq;try refine zU ?_)|(refine MS.new ?_;intro bq hbq hbqf;try refine zU ?_)|(refine MS.nil ?_;intro nq hnq hltq;have hlq:=hltq _ _ (Hp.get_eq _ _ _);clear hltq;try refine zU ?_)|(refine LS.nilQ ?_;try with_reducible intro nq hnq;try refine zU ?_))
  refine LS.callQ (bl (tb (sz p n' ∧ isVec p n' u))) rfl (fun n' hn' => impl_IsVector _ _ u _ _ hu) ?_
  (repeat first|refine zG ?_|(refine LS.nilO ?_;intro nq hnq hltq;try refine zU ?_)|(refine MS.new ?_;intro bq hbq hbqf;try refine zU ?_)|(refine MS.nil ?_;intro nq hnq hltq;have hlq:=hltq _ _ (Hp.get_eq _ _ _);clear hltq;try refine zU ?_)|(refine LS.nilQ ?_;try with_reducible intro nq hnq;try refine zU ?_))
  refine RS.sp (t := 16) rfl (fun h2 => ?_) (fun h2 => ?_) <;> (try simp only [tb_eq, tb_eqF, decide_eq_true_eq, decide_eq_false_iff_not, beq_iff_eq, bne_iff_ne, ne_eq, Decidable.not_not, beq_eq_false_iff_ne, bne_eq_false_iff_eq, Bool.not_eq_true', Bool.not_eq_false', Bool.not_eq_eq_eq_not, Bool.not_true, Bool.not_false] at h2)
  · (repeat first|refine zG ?_|(refine LS.nilO ?_;intro nq hnq hltq;try refine zU ?_)|(refine MS.new ?_;intro bq hbq hbqf;try refine zU ?_)|(refine MS.nil ?_;intro nq hnq hltq;have hlq:=hltq _ _ (Hp.get_eq _ _ _);clear hltq;try refine zU ?_)|(refine LS.nilQ ?_;try with_reducible intro nq hnq;try refine zU ?_))
    refine RS.call rfl ((impl_isTable p n' m b 10 K _ _ hb (by omega) hK hm).mono ?_)
    rintro r H' n3 hn3 ⟨rfl, rfl⟩
    (repeat first|refine zG ?_|(refine LS.nilO ?_;intro nq hnq hltq;try refine zU ?_)|(refine MS.new ?_;intro bq hbq hbqf;try refine zU ?_)|(refine MS.nil ?_;intro nq hnq hltq;have hlq:=hltq _ _ (Hp.get_eq _ _ _);clear hltq;try refine zU ?_)|(refine LS.nilQ ?_;try with_reducible intro nq hnq;try refine zU ?_))
    exact ⟨_, _, rfl, by exact zD, congrArg bl (tb_iff ⟨fun h => ⟨h.1, h2.2, h.2⟩, fun h => ⟨h.1, h.2.2⟩⟩), rfl⟩
  · (repeat first|refine zG ?_|(refine LS.nilO ?_;intro nq hnq hltq;try refine zU ?_)|(refine MS.new ?_;intro bq hbq hbqf;try refine zU ?_)|(refine MS.nil ?_;intro nq hnq hltq;have hlq:=hltq _ _ (Hp.get_eq _ _ _);clear hltq;try refine zU ?_)|(refine LS.nilQ ?_;try with_reducible intro nq hnq;try refine zU ?_))
    exact ⟨_, _, rfl, by exact zD, by rw [tb_false (fun h => h2 ⟨h.1, h.2.1⟩)], rfl⟩
/-- (*impl.Hopf).tensor -/
def ir42 : Cd := (.seq (.reg [⟨some 3,none,.box 55 (.t 0)⟩,⟨some 5,none,.box 56 (.t 2)⟩,⟨some 6,none,.new 29 [(64,(.int .u8 0))]⟩]) (.seq (.reg [⟨some 9,none,.ld none (.t 3)⟩,⟨some 10,none,.call 49 [(.t 9)]⟩,⟨some 11,none,.build 64 [(64,(.int .u8 0))] []⟩,⟨some 7,none,.new 85 [(2,(.int .i64 0))]⟩,⟨some 8,none,.new 29 [(64,(.int .u8 0))]⟩,⟨none,none,.st 2 (.t 7) (.t 10)⟩,⟨none,none,.st 64 (.t 8) (.t 11)⟩]) (.seq (.reg [⟨some 12,none,.mov (.t 1)⟩,⟨some 13,none,.mkf 65 [] [(.t 5),(.t 3),(.t 7),(.t 8)]⟩,⟨some 14,none,.call 51 [(.t 12),(.t 13)]⟩]) (.seq (.reg [⟨some 15,none,.ld (some 64) (.t 8)⟩,⟨none,none,.st 64 (.t 6) (.t 15)⟩]) .ret))))
set_option maxRecDepth 100000 in
theorem tr42 : trFn Tryz.prog Tryz.f42 = some (16, ir42, [.cell (some 64) 6]) := by kernel_rfl
theorem Hopf_tensor (h : HT) (a : Nat) (A B : Nat → Int) (b bA oA bB oB : Nat) (K KA KB : Blk) (H : Hp) (n : Nat) (hS : HS h a) (hb : H.get b = some K) (hsz : K.size = 1106) (hK : h.At K.c) (hB : h.By)
    (hA : isBy 64 A) (hBb : isBy 64 B) (gA : H.get bA = some KA) (sA : oA + 64 ≤ KA.size) (cA : ∀ q, q < 64 → KA.c (oA + q) = .int .u8 (A q))
    (gB : H.get bB = some KB) (sB : oB + 64 ≤ KB.size) (cB : ∀ q, q < 64 → KB.c (oB + q) = .int .u8 (B q)) :
    FnS Tryz.prog 42 [ptr b 0, ptr bA oA, ptr bB oB] H n (fun r H' _ => r = .arr 64 (bys (ten h.p h.m A B)) ∧ H' = H) := by
  have hp := hS.hp
  have ha := hS.ha
  have hk1 := hK.n
  rw [hS.hn] at hk1
  refine FnS.of_body Tryz.func42 tr42 (by simp) (fun hf => ?_)
  dsimp only [argEnv]
  unfold ir42
  have hbn := getlt hf hb
  have hbn1 := getlt hf gA
  have hbn2 := getlt hf gB
  (repeat first|refine zG ?_|(refine LS.nilO ?_;intro nq hnq hltq;try refine zU ?_)|(refine MS.new ?_;intro bq hbq hbqf;try refine zU ?_)|(refine MS.nil ?_;intro nq hnq hltq;have hlq:=hltq _ _ (Hp.get_eq _ _ _);clear hltq;try refine zU ?_)|(refine LS.nilQ ?_;try with_reducible intro nq hnq;try refine zU ?_))
  refine RS.call rfl ((Hopf_field h.p a b K _ _ (by exact zH) hsz hK.p hk1 (by omega)).mono ?_)
  rintro r H n2 hn2 ⟨rfl, rfl⟩
  (repeat first|refine zG ?_|(refine LS.nilO ?_;intro nq hnq hltq;try refine zU ?_)|(refine MS.new ?_;intro bq hbq hbqf;try refine zU ?_)|(refine MS.nil ?_;intro nq hnq hltq;have hlq:=hltq _ _ (Hp.get_eq _ _ _);clear hltq;try refine zU ?_)|(refine LS.nilQ ?_;try with_reducible intro nq hnq;try refine zU ?_))
  refine RS.call rfl ((impl_pairs A bA oA _ _ (fun t => (n2 + 1, ⟨64, bys (tns h.p h.m A B t 0), 29⟩) :: (n2, ⟨2, fldC h.p a, 85⟩) :: (n + 2, ⟨64, fun _ => .int .u8 0, 29⟩) :: (n + 1, ⟨1, fun _ => .ptr bB oB, 56⟩) :: (n, ⟨1, fun _ => .ptr b 0, 55⟩) :: H) _ _ (by (try dsimp only); rw [tns_zero]; rfl)
    (fun s hs => ⟨KA, by exact zH, sA, cA⟩) hA (fun s hs hz => by (try dsimp only); rw [tns_skip hz]) (fun t j k n' ht ht' hk hz hn' => ?_)).mono ?_)
  · refine (Hopf_tensor_1 h a A B t j k ht' (by omega) hk b bB oB (n + 1) n n2 (n2 + 1) K KB _ _ _ n' hS (by exact zH) hsz hK hB hA hBb (by exact zH) sB cB (by exact zH) rfl rfl (by exact zH) rfl rfl (by exact zH) (by exact zH) (by omega) (by omega) (by omega) (by omega) (by omega)).mono ?_
    rintro r H' n3 hn3 rfl
    simp (disch := omega) only [Hp.set_eq, Hp.set_ne, Hp.set_set]
  rintro r H' n3 hn3 rfl
  (repeat first|refine zG ?_|(refine LS.nilO ?_;intro nq hnq hltq;try refine zU ?_)|(refine MS.new ?_;intro bq hbq hbqf;try refine zU ?_)|(refine MS.nil ?_;intro nq hnq hltq;have hlq:=hltq _ _ (Hp.get_eq _ _ _);clear hltq;try refine zU ?_)|(refine LS.nilQ ?_;try with_reducible intro nq hnq;try refine zU ?_))
  exact ⟨.arr 64 (bys (ten h.p h.m A B)), _, conc_arr (fun q hq => by simp only [ten, Nat.zero_add]), by exact zD, rfl, rfl⟩
/-- spec.l03Pairs -/
def ir70 : Cd := (.seq (.reg [⟨some 3,none,.box 35 (.t 0)⟩,⟨some 4,none,.box 29 (.t 1)⟩,⟨some 5,none,.box 29 (.t 2)⟩,⟨some 6,none,.new 29 [(64,(.int .u8 0))]⟩]) (.seq (.mix [⟨some 15,none,.fa 0 (.t 3)⟩,⟨some 16,none,.ld none (.t 15)⟩,⟨some 17,none,.fa 1 (.t 3)⟩,⟨some 18,none,.ld none (.t 17)⟩,⟨some 19,none,.build 64 [(64,(.int .u8 0))] []⟩] [⟨some 9,none,.new 29 [(64,(.int .u8 0))]⟩,⟨some 7,none,.mov (.t 16)⟩,⟨some 8,none,.mov (.t 18)⟩,⟨none,none,.st 64 (.t 9) (.t 19)⟩]) (.seq (.seq (.reg [⟨some 10,none,.mov (.c (.int .i64 0))⟩]) (.block 0 (.loop (.seq (.seq (.reg [⟨some 20,none,.mov (.t 10)⟩,⟨some 21,none,.mov (.t 8)⟩,⟨some 22,none,.bin .lss (.t 20) (.t 21)⟩]) (.cond (.t 22) .skip (.exit 0))) (.seq (.block 1 (.seq (.reg [⟨some 11,none,.mov (.c (.int .i64 0))⟩]) (.block 2 (.loop (.seq (.seq (.reg [⟨some 25,none,.mov (.t 11)⟩,⟨some 26,none,.mov (.t 8)⟩,⟨some 27,none,.bin .lss (.t 25) (.t 26)⟩]) (.cond (.t 27) .skip (.exit 2))) (.seq (.block 3 (.seq (.mix [⟨some 30,none,.ld (some 1106) (.t 3)⟩,⟨some 31,none,.call 28 [(.t 30)]⟩,⟨some 32,none,.mov (.t 10)⟩,⟨some 33,none,.ia 8 8 (.t 4) (.t 32)⟩,⟨some 34,none,.ld (some 8) (.t 33)⟩,⟨some 35,none,.mov (.t 11)⟩,⟨some 36,none,.ia 8 8 (.t 5) (.t 35)⟩,⟨some 37,none,.ld (some 8) (.t 36)⟩,⟨some 38,none,.call 30 [(.t 31),(.t 34),(.t 37)]⟩] [⟨some 12,none,.new 27 [(8,(.int .u8 0))]⟩,⟨none,none,.st 8 (.t 12) (.t 38)⟩]) (.seq (.seq (.reg [⟨some 39,none,.ld (some 8) (.t 12)⟩,⟨some 40,none,.call 54 [(.t 39)]⟩]) (.cond (.t 40) (.exit 3) .skip)) (.seq (.reg [⟨some 13,none,.mov (.c (.int .i64 0))⟩]) (.block 4 (.loop (.seq (.seq (.reg [⟨some 41,none,.mov (.t 13)⟩,⟨some 42,none,.mov (.t 8)⟩,⟨some 43,none,.bin .lss (.t 41) (.t 42)⟩]) (.cond (.t 43) .skip (.exit 4))) (.seq (.block 5 (.seq (.reg [⟨some 46,none,.mov (.t 10)⟩,⟨some 47,none,.mov (.t 11)⟩,⟨some 48,none,.mov (.t 13)⟩,⟨some 49,none,.fa 10 (.t 3)⟩,⟨some 50,none,.ia 8 64 (.t 49) (.t 46)⟩,⟨some 51,none,.ia 8 8 (.t 50) (.t 47)⟩,⟨some 52,none,.ia 8 1 (.t 51) (.t 48)⟩,⟨some 53,none,.ld none (.t 52)⟩,⟨some 14,none,.mov (.t 53)⟩]) (.seq (.reg [⟨some 54,none,.mov (.t 14)⟩,⟨some 55,none,.bin .neq (.t 54) (.c (.int .u8 0))⟩]) (.cond (.t 55) (.drw true [10] [⟨some 56,none,.mov (.t 13)⟩,⟨some 57,none,.mov (.t 7)⟩,⟨some 58,none,.mov (.t 13)⟩,⟨some 59,none,.ia 8 8 (.t 9) (.t 58)⟩,⟨some 60,none,.ld (some 8) (.t 59)⟩,⟨some 61,none,.ld (some 8) (.t 12)⟩,⟨some 62,none,.mov (.t 14)⟩,⟨some 63,none,.cv .i64 (.t 62)⟩,⟨some 64,none,.call 47 [(.t 57),(.t 60),(.t 61),(.t 63)]⟩,⟨some 65,none,.ia 8 8 (.t 9) (.t 56)⟩,⟨none,none,.st 8 (.t 65) (.t 64)⟩]) .skip)))) (.reg [⟨some 44,none,.mov (.t 13)⟩,⟨some 45,none,.bin .add (.t 44) (.c (.int .i64 1))⟩,⟨some 13,none,.mov (.t 45)⟩]))))))))) (.reg [⟨some 28,none,.mov (.t 11)⟩,⟨some 29,none,.bin .add (.t 28) (.c (.int .i64 1))⟩,⟨some 11,none,.mov (.t 29)⟩]))))))) (.reg [⟨some 23,none,.mov (.t 10)⟩,⟨some 24,none,.bin .add (.t 23) (.c (.int .i64 1))⟩,⟨some 10,none,.mov (.t 24)⟩])))))) (.seq (.reg [⟨some 66,none,.ld (some 64) (.t 9)⟩,⟨none,none,.st 64 (.t 6) (.t 66)⟩]) .ret))))
set_option maxRecDepth 100000 in
theorem tr70 : trFn Tryz.prog Tryz.f70 = some (67, ir70, [.cell (some 64) 6]) := by kernel_rfl
theorem spec_l03Pairs (h : HT) (a : Nat) (f g : Nat → Int) (K : Nat → SV) (H : Hp) (n : Nat) (hS : HS h a) (hK : h.At K) (hB : h.By) (hA : isBy 64 f) (hG : isBy 64 g) :
    FnS Tryz.prog 70 [.arr 1106 K, .arr 64 (bys f), .arr 64 (bys g)] H n (fun r H' _ => r = .arr 64 (bys (ten h.p h.m f g)) ∧ H' = H) := by
  have hp := hS.hp
  have ha := hS.ha
  have hk0 := hK.p
  have hk1 := hK.n
  rw [hS.hn] at hk1
  have hk5 := hK.m
  refine FnS.of_body Tryz.func70 tr70 (by simp) (fun hf => ?_)
  dsimp only [argEnv]
  unfold ir70
  (repeat first|refine zG ?_|(refine LS.nilO ?_;intro nq hnq hltq;try refine zU ?_)|(refine MS.new ?_;intro bq hbq hbqf;try refine zU ?_)|(refine MS.nil ?_;intro nq hnq hltq;have hlq:=hltq _ _ (Hp.get_eq _ _ _);clear hltq;try refine zU ?_)|(refine LS.nilQ ?_;try with_reducible intro nq hnq;try refine zU ?_))
  revert bq
  intro b1 hb1 hb1f hl1
  refine CS.iter a (fun j => [(10, i64 j), (3, ptr n 0), (4, ptr (n + 1) 0), (5, ptr (n + 2) 0), (6, ptr (n + 3) 0), (7, i64 h.p), (8, i64 a), (9, ptr b1 0)])
    (fun j => (b1, ⟨64, bys (tsr h.p h.m f g a j 0), 29⟩) :: (n + 3, ⟨64, bys (fun _ => 0), 29⟩) :: (n + 2, ⟨64, bys g, 29⟩) :: (n + 1, ⟨64, bys f, 29⟩) :: (n, ⟨1106, K, 35⟩) :: H) (fun _ => True) (by (repeat first | exact trivial | refine And.intro rfl ?_))
    (Drops.keepc rfl rfl (fun _ _ => by rw [tsr_zero]; rfl) (Drops.keepc rfl rfl (fun _ _ => rfl) (Drops.refl _ _))) trivial ?_
  intro j n3 hj hn _
  (repeat first|refine zG ?_|(refine LS.nilO ?_;intro nq hnq hltq;try refine zU ?_)|(refine MS.new ?_;intro bq hbq hbqf;try refine zU ?_)|(refine MS.nil ?_;intro nq hnq hltq;have hlq:=hltq _ _ (Hp.get_eq _ _ _);clear hltq;try refine zU ?_)|(refine LS.nilQ ?_;try with_reducible intro nq hnq;try refine zU ?_))
  refine zI ?_ ?_<;>intro h2
  · (repeat first|refine zG ?_|(refine LS.nilO ?_;intro nq hnq hltq;try refine zU ?_)|(refine MS.new ?_;intro bq hbq hbqf;try refine zU ?_)|(refine MS.nil ?_;intro nq hnq hltq;have hlq:=hltq _ _ (Hp.get_eq _ _ _);clear hltq;try refine zU ?_)|(refine LS.nilQ ?_;try with_reducible intro nq hnq;try refine zU ?_))
    refine CS.iter a (fun l => [(11, i64 l), (10, i64 j), (3, ptr n 0), (4, ptr (n + 1) 0), (5, ptr (n + 2) 0), (6, ptr (n + 3) 0), (7, i64 h.p), (8, i64 a), (9, ptr b1 0)])
      (fun l => (b1, ⟨64, bys (tsr h.p h.m f g a j l), 29⟩) :: (n + 3, ⟨64, bys (fun _ => 0), 29⟩) :: (n + 2, ⟨64, bys g, 29⟩) :: (n + 1, ⟨64, bys f, 29⟩) :: (n, ⟨1106, K, 35⟩) :: H) (fun _ => True) (by (repeat first | exact trivial | refine And.intro rfl ?_))
      (Drops.refl _ _) trivial ?_
    intro l n4 hl hn4 _
    (repeat first|refine zG ?_|(refine LS.nilO ?_;intro nq hnq hltq;try refine zU ?_)|(refine MS.new ?_;intro bq hbq hbqf;try refine zU ?_)|(refine MS.nil ?_;intro nq hnq hltq;have hlq:=hltq _ _ (Hp.get_eq _ _ _);clear hltq;try refine zU ?_)|(refine LS.nilQ ?_;try with_reducible intro nq hnq;try refine zU ?_))
    refine zI ?_ ?_<;>intro h3
    · (repeat first|refine zG ?_|(refine LS.nilO ?_;intro nq hnq hltq;try refine zU ?_)|(refine MS.new ?_;intro bq hbq hbqf;try refine zU ?_)|(refine MS.nil ?_;intro nq hnq hltq;have hlq:=hltq _ _ (Hp.get_eq _ _ _);clear hltq;try refine zU ?_)|(refine LS.nilQ ?_;try with_reducible intro nq hnq;try refine zU ?_))
      refine LS.callQ (.arr 522 K) rfl (fun n' hn' => FnS.args (concs_cons (conc_arr (fun q hq => rfl)) rfl) (spec_l03Algebra K h _ _ hK)) ?_
      (repeat first|refine zG ?_|(refine LS.nilO ?_;intro nq hnq hltq;try refine zU ?_)|(refine MS.new ?_;intro bq hbq hbqf;try refine zU ?_)|(refine MS.nil ?_;intro nq hnq hltq;have hlq:=hltq _ _ (Hp.get_eq _ _ _);clear hltq;try refine zU ?_)|(refine LS.nilQ ?_;try with_reducible intro nq hnq;try refine zU ?_))
      refine LS.callQ (.arr 8 (bys (pr h.p h.m (fun x => f (8 * j + x)) (fun x => g (8 * l + x)) a))) rfl (fun n' hn' => spec_l01Times h.p a h.m (fun x => f (8 * j + x)) (fun x => g (8 * l + x)) K _ _ hp ha hk0 hk1 hk5 hB.m (fun x hx => hA _ (by omega)) (fun x hx => hG _ (by omega))) ?_
      have hpr := pr_res hp.1 h.m (fun x => f (8 * j + x)) (fun x => g (8 * l + x)) a 8
      (repeat first|refine zG ?_|(refine LS.nilO ?_;intro nq hnq hltq;try refine zU ?_)|(refine MS.new ?_;intro bq hbq hbqf;try refine zU ?_)|(refine MS.nil ?_;intro nq hnq hltq;have hlq:=hltq _ _ (Hp.get_eq _ _ _);clear hltq;try refine zU ?_)|(refine LS.nilQ ?_;try with_reducible intro nq hnq;try refine zU ?_))
      refine RS.call rfl ((spec_l01Zero (pr h.p h.m (fun x => f (8 * j + x)) (fun x => g (8 * l + x)) a) _ _).mono ?_)
      rintro r H n5 hn5 ⟨rfl, rfl⟩
      (repeat first|refine zG ?_|(refine LS.nilO ?_;intro nq hnq hltq;try refine zU ?_)|(refine MS.new ?_;intro bq hbq hbqf;try refine zU ?_)|(refine MS.nil ?_;intro nq hnq hltq;have hlq:=hltq _ _ (Hp.get_eq _ _ _);clear hltq;try refine zU ?_)|(refine LS.nilQ ?_;try with_reducible intro nq hnq;try refine zU ?_))
      refine zI ?_ ?_<;>intro h4
      · (repeat first|refine zG ?_|(refine LS.nilO ?_;intro nq hnq hltq;try refine zU ?_)|(refine MS.new ?_;intro bq hbq hbqf;try refine zU ?_)|(refine MS.nil ?_;intro nq hnq hltq;have hlq:=hltq _ _ (Hp.get_eq _ _ _);clear hltq;try refine zU ?_)|(refine LS.nilQ ?_;try with_reducible intro nq hnq;try refine zU ?_))
        exact ⟨by omega, by (repeat first | exact trivial | refine And.intro rfl ?_), Drops.drop (by omega) (by simp (disch := omega) only [Hp.get_ne]; exact hf _ (by omega)) (Drops.keepc rfl rfl (fun q hq => by simp only [bys]; rw [tsr_same (twr_zero h4 q)]) (Drops.refl _ _)), trivial⟩
      · (repeat first|refine zG ?_|(refine LS.nilO ?_;intro nq hnq hltq;try refine zU ?_)|(refine MS.new ?_;intro bq hbq hbqf;try refine zU ?_)|(refine MS.nil ?_;intro nq hnq hltq;have hlq:=hltq _ _ (Hp.get_eq _ _ _);clear hltq;try refine zU ?_)|(refine LS.nilQ ?_;try with_reducible intro nq hnq;try refine zU ?_))
        refine CS.iter a (fun x => [(13, i64 x), (12, ptr bq 0), (11, i64 l), (10, i64 j), (3, ptr n 0), (4, ptr (n + 1) 0), (5, ptr (n + 2) 0), (6, ptr (n + 3) 0), (7, i64 h.p), (8, i64 a), (9, ptr b1 0)])
          (fun x => (bq, ⟨8, bys (pr h.p h.m (fun x => f (8 * j + x)) (fun x => g (8 * l + x)) a), 27⟩) :: (b1, ⟨64, bys (rowsTo (tsr h.p h.m f g a j l) (tsr h.p h.m f g a j (l + 1)) x), 29⟩) :: (n + 3, ⟨64, bys (fun _ => 0), 29⟩) :: (n + 2, ⟨64, bys g, 29⟩) :: (n + 1, ⟨64, bys f, 29⟩) :: (n, ⟨1106, K, 35⟩) :: H) (fun _ => True) (by (repeat first | exact trivial | refine And.intro rfl ?_))
          (Drops.keepc rfl rfl (fun _ _ => rfl) (Drops.keepc rfl rfl (fun _ _ => by rw [rowsTo_zero]) (Drops.refl _ _))) trivial ?_
        intro x n6 hx hn6 _
        (repeat first|refine zG ?_|(refine LS.nilO ?_;intro nq hnq hltq;try refine zU ?_)|(refine MS.new ?_;intro bq hbq hbqf;try refine zU ?_)|(refine MS.nil ?_;intro nq hnq hltq;have hlq:=hltq _ _ (Hp.get_eq _ _ _);clear hltq;try refine zU ?_)|(refine LS.nilQ ?_;try with_reducible intro nq hnq;try refine zU ?_))
        refine zI ?_ ?_<;>intro h5
        · have hmx := hB.m (64 * j + 8 * l + x) (by omega)
          (repeat first|refine zG ?_|(refine LS.nilO ?_;intro nq hnq hltq;try refine zU ?_)|(refine MS.new ?_;intro bq hbq hbqf;try refine zU ?_)|(refine MS.nil ?_;intro nq hnq hltq;have hlq:=hltq _ _ (Hp.get_eq _ _ _);clear hltq;try refine zU ?_)|(refine LS.nilQ ?_;try with_reducible intro nq hnq;try refine zU ?_))
          refine zI ?_ ?_<;>intro h6
          · have hr : ∀ q, q < 8 → (bys (rowsTo (tsr h.p h.m f g a j l) (tsr h.p h.m f g a j (l + 1)) x)) (8 * x + q) = .int .u8 (tsr h.p h.m f g a j l (8 * x + q)) := fun y hy => by simp only [bys, rowsTo]; rw [if_neg (by omega)]
            (repeat first|refine zG ?_|(refine LS.nilO ?_;intro nq hnq hltq;try refine zU ?_)|(refine MS.new ?_;intro bq hbq hbqf;try refine zU ?_)|(refine MS.nil ?_;intro nq hnq hltq;have hlq:=hltq _ _ (Hp.get_eq _ _ _);clear hltq;try refine zU ?_)|(refine LS.nilQ ?_;try with_reducible intro nq hnq;try refine zU ?_))
            refine LS.callQ (.arr 8 (bys (pl h.p (fun y => tsr h.p h.m f g a j l (8 * x + y)) (h.m (64 * j + 8 * l + x)) (pr h.p h.m (fun x => f (8 * j + x)) (fun x => g (8 * l + x)) a)))) rfl (fun n' hn' => spec_l01Add h.p (h.m (64 * j + 8 * l + x)) (fun y => tsr h.p h.m f g a j l (8 * x + y)) (pr h.p h.m (fun x => f (8 * j + x)) (fun x => g (8 * l + x)) a) _ _ hp (fun y hy => (tsr_res hp.1 h.m f g a j l 64).by hp.2 _ (by omega)) (hpr.by hp.2) (by omega)) ?_
            (repeat first|refine zG ?_|(refine LS.nilO ?_;intro nq hnq hltq;try refine zU ?_)|(refine MS.new ?_;intro bq hbq hbqf;try refine zU ?_)|(refine MS.nil ?_;intro nq hnq hltq;have hlq:=hltq _ _ (Hp.get_eq _ _ _);clear hltq;try refine zU ?_)|(refine LS.nilQ ?_;try with_reducible intro nq hnq;try refine zU ?_))
            exact ⟨by omega, by (repeat first | exact trivial | refine And.intro rfl ?_), Drops.keepc rfl rfl (fun _ _ => rfl) (Drops.keepc rfl rfl (fun q hq => rowsTo_step (fun y hy => tsr_row _ _ _ _ _ _ _ _ _ hy) q) (Drops.refl _ _)), trivial⟩
          · (repeat first|refine zG ?_|(refine LS.nilO ?_;intro nq hnq hltq;try refine zU ?_)|(refine MS.new ?_;intro bq hbq hbqf;try refine zU ?_)|(refine MS.nil ?_;intro nq hnq hltq;have hlq:=hltq _ _ (Hp.get_eq _ _ _);clear hltq;try refine zU ?_)|(refine LS.nilQ ?_;try with_reducible intro nq hnq;try refine zU ?_))
            exact ⟨by omega, by (repeat first | exact trivial | refine And.intro rfl ?_), Drops.keepc rfl rfl (fun _ _ => rfl) (Drops.keepc rfl rfl (fun q hq => by
              simp only [bys]; rw [rowsTo_keep (fun y hy => (tsr_same (by unfold twr; rw [show (8 * x + y) / 8 = x by omega, h6, Int.zero_mul])).symm)]) (Drops.refl _ _)), trivial⟩
        · have : x = a := by omega
          subst this
          (repeat first|refine zG ?_|(refine LS.nilO ?_;intro nq hnq hltq;try refine zU ?_)|(refine MS.new ?_;intro bq hbq hbqf;try refine zU ?_)|(refine MS.nil ?_;intro nq hnq hltq;have hlq:=hltq _ _ (Hp.get_eq _ _ _);clear hltq;try refine zU ?_)|(refine LS.nilQ ?_;try with_reducible intro nq hnq;try refine zU ?_))
          exact ⟨by omega, by (repeat first | exact trivial | refine And.intro rfl ?_), Drops.drop (by omega) (by simp (disch := omega) only [Hp.get_ne]; exact hf _ (by omega)) (Drops.keepc rfl rfl (fun q hq => by simp only [bys]; rw [rowsTo_all (fun q h1 h2 => tsr_out hS.mm (by omega) (by omega) h1 h2) hq]) (Drops.refl _ _)), trivial⟩
    · have : l = a := by omega
      subst this
      (repeat first|refine zG ?_|(refine LS.nilO ?_;intro nq hnq hltq;try refine zU ?_)|(refine MS.new ?_;intro bq hbq hbqf;try refine zU ?_)|(refine MS.nil ?_;intro nq hnq hltq;have hlq:=hltq _ _ (Hp.get_eq _ _ _);clear hltq;try refine zU ?_)|(refine LS.nilQ ?_;try with_reducible intro nq hnq;try refine zU ?_))
      exact ⟨by omega, by (repeat first | exact trivial | refine And.intro rfl ?_), by rw [tsr_next]; exact Drops.refl _ _, trivial⟩
  · have : j = a := by omega
    subst this
    (repeat first|refine zG ?_|(refine LS.nilO ?_;intro nq hnq hltq;try refine zU ?_)|(refine MS.new ?_;intro bq hbq hbqf;try refine zU ?_)|(refine MS.nil ?_;intro nq hnq hltq;have hlq:=hltq _ _ (Hp.get_eq _ _ _);clear hltq;try refine zU ?_)|(refine LS.nilQ ?_;try with_reducible intro nq hnq;try refine zU ?_))
    exact ⟨.arr 64 (bys (ten h.p h.m f g)), H, conc_arr (fun q hq => by simp only [Nat.zero_add, bys]; rw [tsr_end hS.mm ha hq]), by exact zD, rfl, rfl⟩
/-- spec.l03Shape -/
def ir67 : Cd := (.seq (.reg [⟨some 1,none,.box 35 (.t 0)⟩,⟨some 2,none,.mov (.c (.bool false))⟩]) (.seq (.drw true [] [⟨some 5,none,.fa 0 (.t 1)⟩,⟨some 6,none,.ld none (.t 5)⟩,⟨some 7,none,.fa 1 (.t 1)⟩,⟨some 8,none,.ld none (.t 7)⟩,⟨some 3,none,.mov (.t 6)⟩,⟨some 4,none,.mov (.t 8)⟩]) (.seq (.reg [⟨some 9,none,.ld (some 1106) (.t 1)⟩,⟨some 10,none,.call 28 [(.t 9)]⟩,⟨some 11,none,.call 90 [(.t 10)]⟩,⟨some 12,none,.mov (.t 11)⟩,⟨some 13,(some (12,true)),.mov (.t 3)⟩,⟨some 14,(some (12,true)),.mov (.t 4)⟩,⟨some 15,(some (12,true)),.fa 522 (.t 1)⟩,⟨some 16,(some (12,true)),.ld (some 8) (.t 15)⟩,⟨some 17,(some (12,true)),.call 69 [(.t 13),(.t 14),(.t 16)]⟩,⟨some 18,none,.pick (.t 12) (.t 17) (.c (.bool false))⟩,⟨some 19,none,.mov (.t 18)⟩,⟨some 20,(some (19,true)),.mov (.t 3)⟩,⟨some 21,(some (19,true)),.mov (.t 4)⟩,⟨some 22,(some (19,true)),.fa 530 (.t 1)⟩,⟨some 23,(some (19,true)),.ld (some 512) (.t 22)⟩,⟨some 24,(some (19,true)),.call 91 [(.t 20),(.t 21),(.t 23)]⟩,⟨some 25,none,.pick (.t 19) (.t 24) (.c (.bool false))⟩,⟨some 26,none,.mov (.t 25)⟩,⟨some 27,(some (26,true)),.mov (.t 3)⟩,⟨some 28,(some (26,true)),.mov (.t 4)⟩,⟨some 29,(some (26,true)),.fa 1042 (.t 1)⟩,⟨some 30,(some (26,true)),.ld (some 64) (.t 29)⟩,⟨some 31,(some (26,true)),.call 45 [(.t 27),(.t 28),(.t 30)]⟩,⟨some 32,none,.pick (.t 26) (.t 31) (.c (.bool false))⟩,⟨some 2,none,.mov (.t 32)⟩]) .ret)))
set_option maxRecDepth 100000 in
theorem tr67 : trFn Tryz.prog Tryz.f67 = some (33, ir67, [.tmp 2]) := by kernel_rfl
theorem spec_l03Shape (h : HT) (K : Nat → SV) (H : Hp) (n : Nat) (hK : h.At K) (hB : h.By) :
    FnS Tryz.prog 67 [.arr 1106 K] H n (fun r H' _ => r = bl (tb (shH h)) ∧ H' = H) := by
  have hk0 := hK.p
  have hk1 := hK.n
  have hk2 := hK.u
  have hk3 := hK.m
  have hk4 := hK.e
  have hk5 := hK.c
  have hk6 := hK.s
  refine FnS.of_body Tryz.func67 tr67 (by simp) (fun hf => ?_)
  dsimp only [argEnv]
  unfold ir67
  (repeat first|refine zG ?_|(refine LS.nilO ?_;intro nq hnq hltq;try refine zU ?_)|(refine MS.new ?_;intro bq hbq hbqf;try refine zU ?_)|(refine MS.nil ?_;intro nq hnq hltq;have hlq:=hltq _ _ (Hp.get_eq _ _ _);clear hltq;try refine zU ?_)|(refine LS.nilQ ?_;try with_reducible intro nq hnq;try refine zU ?_))
  refine RS.call rfl ((FnS.args (concs_cons (conc_arr (fun q hq => rfl)) rfl) (spec_l03Algebra K h _ _ hK)).mono ?_)
  rintro r H n2 hn2 ⟨rfl, rfl⟩
  (repeat first|refine zG ?_|(refine LS.nilO ?_;intro nq hnq hltq;try refine zU ?_)|(refine MS.new ?_;intro bq hbq hbqf;try refine zU ?_)|(refine MS.nil ?_;intro nq hnq hltq;have hlq:=hltq _ _ (Hp.get_eq _ _ _);clear hltq;try refine zU ?_)|(refine LS.nilQ ?_;try with_reducible intro nq hnq;try refine zU ?_))
  refine RS.call rfl ((spec_l01Shape h.p h.n h.u h.m K _ _ hk0 hk1 hk2 hk3 hB.u hB.m).mono ?_)
  rintro r H n3 hn3 ⟨rfl, rfl⟩
  (repeat first|refine zG ?_|(refine LS.nilO ?_;intro nq hnq hltq;try refine zU ?_)|(refine MS.new ?_;intro bq hbq hbqf;try refine zU ?_)|(refine MS.nil ?_;intro nq hnq hltq;have hlq:=hltq _ _ (Hp.get_eq _ _ _);clear hltq;try refine zU ?_)|(refine LS.nilQ ?_;try with_reducible intro nq hnq;try refine zU ?_))
  refine RS.sp (t := 12) rfl (fun h1 => ?_) (fun h1 => ?_) <;> (try simp only [tb_eq, tb_eqF, decide_eq_true_eq, decide_eq_false_iff_not, beq_iff_eq, bne_iff_ne, ne_eq, Decidable.not_not, beq_eq_false_iff_ne, bne_eq_false_iff_eq, Bool.not_eq_true', Bool.not_eq_false', Bool.not_eq_eq_eq_not, Bool.not_true, Bool.not_false] at h1)
  · (repeat first|refine zG ?_|(refine LS.nilO ?_;intro nq hnq hltq;try refine zU ?_)|(refine MS.new ?_;intro bq hbq hbqf;try refine zU ?_)|(refine MS.nil ?_;intro nq hnq hltq;have hlq:=hltq _ _ (Hp.get_eq _ _ _);clear hltq;try refine zU ?_)|(refine LS.nilQ ?_;try with_reducible intro nq hnq;try refine zU ?_))
    refine RS.call rfl ((spec_l01Vector h.p h.n h.e _ _ hB.e).mono ?_)
    rintro r H n4 hn4 ⟨rfl, rfl⟩
    (repeat first|refine zG ?_|(refine LS.nilO ?_;intro nq hnq hltq;try refine zU ?_)|(refine MS.new ?_;intro bq hbq hbqf;try refine zU ?_)|(refine MS.nil ?_;intro nq hnq hltq;have hlq:=hltq _ _ (Hp.get_eq _ _ _);clear hltq;try refine zU ?_)|(refine LS.nilQ ?_;try with_reducible intro nq hnq;try refine zU ?_))
    refine RS.sp (t := 19) rfl (fun h2 => ?_) (fun h2 => ?_) <;> (try simp only [tb_eq, tb_eqF, decide_eq_true_eq, decide_eq_false_iff_not, beq_iff_eq, bne_iff_ne, ne_eq, Decidable.not_not, beq_eq_false_iff_ne, bne_eq_false_iff_eq, Bool.not_eq_true', Bool.not_eq_false', Bool.not_eq_eq_eq_not, Bool.not_true, Bool.not_false] at h2)
    · (repeat first|refine zG ?_|(refine LS.nilO ?_;intro nq hnq hltq;try refine zU ?_)|(refine MS.new ?_;intro bq hbq hbqf;try refine zU ?_)|(refine MS.nil ?_;intro nq hnq hltq;have hlq:=hltq _ _ (Hp.get_eq _ _ _);clear hltq;try refine zU ?_)|(refine LS.nilQ ?_;try with_reducible intro nq hnq;try refine zU ?_))
      refine RS.call rfl ((spec_l01Table h.p h.n h.c _ _ hB.c).mono ?_)
      rintro r H n5 hn5 ⟨rfl, rfl⟩
      (repeat first|refine zG ?_|(refine LS.nilO ?_;intro nq hnq hltq;try refine zU ?_)|(refine MS.new ?_;intro bq hbq hbqf;try refine zU ?_)|(refine MS.nil ?_;intro nq hnq hltq;have hlq:=hltq _ _ (Hp.get_eq _ _ _);clear hltq;try refine zU ?_)|(refine LS.nilQ ?_;try with_reducible intro nq hnq;try refine zU ?_))
      refine RS.sp (t := 26) rfl (fun h3 => ?_) (fun h3 => ?_) <;> (try simp only [tb_eq, tb_eqF, decide_eq_true_eq, decide_eq_false_iff_not, beq_iff_eq, bne_iff_ne, ne_eq, Decidable.not_not, beq_eq_false_iff_ne, bne_eq_false_iff_eq, Bool.not_eq_true', Bool.not_eq_false', Bool.not_eq_eq_eq_not, Bool.not_true, Bool.not_false] at h3)
      · (repeat first|refine zG ?_|(refine LS.nilO ?_;intro nq hnq hltq;try refine zU ?_)|(refine MS.new ?_;intro bq hbq hbqf;try refine zU ?_)|(refine MS.nil ?_;intro nq hnq hltq;have hlq:=hltq _ _ (Hp.get_eq _ _ _);clear hltq;try refine zU ?_)|(refine LS.nilQ ?_;try with_reducible intro nq hnq;try refine zU ?_))
        refine RS.call rfl ((spec_l01Linear h.p h.n h.s _ _ hB.s).mono ?_)
        rintro r H n6 hn6 ⟨rfl, rfl⟩
        (repeat first|refine zG ?_|(refine LS.nilO ?_;intro nq hnq hltq;try refine zU ?_)|(refine MS.new ?_;intro bq hbq hbqf;try refine zU ?_)|(refine MS.nil ?_;intro nq hnq hltq;have hlq:=hltq _ _ (Hp.get_eq _ _ _);clear hltq;try refine zU ?_)|(refine LS.nilQ ?_;try with_reducible intro nq hnq;try refine zU ?_))
        exact ⟨_, H, rfl, by exact zD, congrArg bl (tb_iff ⟨fun q => ⟨h1, ⟨h1.1, h2, h3⟩, q⟩, fun q => q.2.2⟩), rfl⟩
      · (repeat first|refine zG ?_|(refine LS.nilO ?_;intro nq hnq hltq;try refine zU ?_)|(refine MS.new ?_;intro bq hbq hbqf;try refine zU ?_)|(refine MS.nil ?_;intro nq hnq hltq;have hlq:=hltq _ _ (Hp.get_eq _ _ _);clear hltq;try refine zU ?_)|(refine LS.nilQ ?_;try with_reducible intro nq hnq;try refine zU ?_))
        exact ⟨_, H, rfl, by exact zD, by rw [tb_false (fun q => h3 q.2.1.2.2)], rfl⟩
    · (repeat first|refine zG ?_|(refine LS.nilO ?_;intro nq hnq hltq;try refine zU ?_)|(refine MS.new ?_;intro bq hbq hbqf;try refine zU ?_)|(refine MS.nil ?_;intro nq hnq hltq;have hlq:=hltq _ _ (Hp.get_eq _ _ _);clear hltq;try refine zU ?_)|(refine LS.nilQ ?_;try with_reducible intro nq hnq;try refine zU ?_))
      exact ⟨_, H, rfl, by exact zD, by rw [tb_false (fun q => h2 q.2.1.2.1)], rfl⟩
  · (repeat first|refine zG ?_|(refine LS.nilO ?_;intro nq hnq hltq;try refine zU ?_)|(refine MS.new ?_;intro bq hbq hbqf;try refine zU ?_)|(refine MS.nil ?_;intro nq hnq hltq;have hlq:=hltq _ _ (Hp.get_eq _ _ _);clear hltq;try refine zU ?_)|(refine LS.nilQ ?_;try with_reducible intro nq hnq;try refine zU ?_))
    exact ⟨_, H, rfl, by exact zD, by rw [tb_false (fun q => h1 q.1)], rfl⟩
/-- (*impl.Hopf).drinfeld -/
def ir27 : Cd := (.seq (.reg [⟨some 2,none,.box 55 (.t 0)⟩,⟨some 4,none,.new 27 [(8,(.int .u8 0))]⟩]) (.seq (.reg [⟨some 7,none,.ld none (.t 2)⟩,⟨some 8,none,.call 49 [(.t 7)]⟩,⟨some 9,none,.build 8 [(8,(.int .u8 0))] []⟩,⟨some 5,none,.new 85 [(2,(.int .i64 0))]⟩,⟨some 6,none,.new 27 [(8,(.int .u8 0))]⟩,⟨none,none,.st 2 (.t 5) (.t 8)⟩,⟨none,none,.st 8 (.t 6) (.t 9)⟩]) (.seq (.reg [⟨some 10,none,.mov (.t 1)⟩,⟨some 11,none,.mkf 52 [] [(.t 5),(.t 6),(.t 2)]⟩,⟨some 12,none,.call 51 [(.t 10),(.t 11)]⟩]) (.seq (.reg [⟨some 13,none,.ld (some 8) (.t 6)⟩,⟨none,none,.st 8 (.t 4) (.t 13)⟩]) .ret))))
set_option maxRecDepth 100000 in
theorem tr27 : trFn Tryz.prog Tryz.f27 = some (14, ir27, [.cell (some 8) 4]) := by kernel_rfl
theorem Hopf_drinfeld (h : HT) (a : Nat) (r : Nat → Int) (b bs os : Nat) (K Ks : Blk) (H : Hp) (n : Nat) (hS : HS h a) (hb : H.get b = some K) (hsz : K.size = 1106) (hK : h.At K.c) (hB : h.By)
    (hbs : H.get bs = some Ks) (ho : os + 64 ≤ Ks.size) (hc : ∀ i, i < 64 → Ks.c (os + i) = .int .u8 (r i)) (hr : isBy 64 r) :
    FnS Tryz.prog 27 [ptr b 0, ptr bs os] H n (fun v H' _ => v = .arr 8 (bys (drf h.p h.m h.s r a 64)) ∧ H' = H) := by
  have hp := hS.hp
  have ha := hS.ha
  have hk1 := hK.n
  rw [hS.hn] at hk1
  refine FnS.of_body Tryz.func27 tr27 (by simp) (fun hf => ?_)
  dsimp only [argEnv]
  unfold ir27
  have hbn := getlt hf hb
  have hbn2 := getlt hf hbs
  (repeat first|refine zG ?_|(refine LS.nilO ?_;intro nq hnq hltq;try refine zU ?_)|(refine MS.new ?_;intro bq hbq hbqf;try refine zU ?_)|(refine MS.nil ?_;intro nq hnq hltq;have hlq:=hltq _ _ (Hp.get_eq _ _ _);clear hltq;try refine zU ?_)|(refine LS.nilQ ?_;try with_reducible intro nq hnq;try refine zU ?_))
  refine RS.call rfl ((Hopf_field h.p a b K _ _ (by exact zH) hsz hK.p hk1 (by omega)).mono ?_)
  rintro v H n2 hn2 ⟨rfl, rfl⟩
  (repeat first|refine zG ?_|(refine LS.nilO ?_;intro nq hnq hltq;try refine zU ?_)|(refine MS.new ?_;intro bq hbq hbqf;try refine zU ?_)|(refine MS.nil ?_;intro nq hnq hltq;have hlq:=hltq _ _ (Hp.get_eq _ _ _);clear hltq;try refine zU ?_)|(refine LS.nilQ ?_;try with_reducible intro nq hnq;try refine zU ?_))
  refine RS.call rfl ((impl_pairs r bs os _ _ (fun t => (n2 + 1, ⟨8, bys (drf h.p h.m h.s r a t), 27⟩) :: (n2, ⟨2, fldC h.p a, 85⟩) :: (n + 1, ⟨8, fun _ => .int .u8 0, 27⟩) :: (n, ⟨1, fun _ => .ptr b 0, 55⟩) :: H) _ _ (by (try dsimp only); rw [drf_zero]; rfl)
    (fun s hs => ⟨Ks, by exact zH, ho, hc⟩) hr (fun t ht hz => by (try dsimp only); rw [drf_skip hz]) (fun t j k n' ht ht' hk hz hn' => ?_)).mono ?_)
  · refine (Hopf_drinfeld_1 h a r t j k ht' (by omega) hk b n2 (n2 + 1) n K _ _ n' hS (by exact zH) hsz hK hB hr (by exact zH) (by exact zH) (by exact zH) rfl rfl).mono ?_
    rintro v H' n3 hn3 rfl
    simp (disch := omega) only [Hp.set_eq, Hp.set_ne, Hp.set_set]
  rintro v H' n3 hn3 rfl
  (repeat first|refine zG ?_|(refine LS.nilO ?_;intro nq hnq hltq;try refine zU ?_)|(refine MS.new ?_;intro bq hbq hbqf;try refine zU ?_)|(refine MS.nil ?_;intro nq hnq hltq;have hlq:=hltq _ _ (Hp.get_eq _ _ _);clear hltq;try refine zU ?_)|(refine LS.nilQ ?_;try with_reducible intro nq hnq;try refine zU ?_))
  exact ⟨.arr 8 (bys (drf h.p h.m h.s r a 64)), _, conc_arr (fun q hq => by simp only [Nat.zero_add]), by exact zD, rfl, rfl⟩
end Go.Proofs.YtbknndbfbebkdabGreatR
