/- Contracts of the program's functions. -/
import Derived.Test.YtmkegkpabifpfaaGreatJam
import Derived.Test.YtmkegkpabifpfaaGreatJal
import Derived.Test.YtmkegkpabifpfaaGreatJat
import Derived.Test.YtmkegkpabifpfaaGreatJas
namespace Go.Proofs.YtmkegkpabifpfaaGreat
open Go.V
set_option linter.unusedSimpArgs false
set_option linter.unusedVariables false
set_option maxHeartbeats 4000000
/-- spec.l02Is -/
def ir80 : Cd := (.seq (.reg [⟨some 1,none,.box 131 (.t 0)⟩,⟨some 2,none,.mov (.c (.bool false))⟩]) (.seq (.seq (.reg [⟨some 5,none,.ld (some 522) (.t 1)⟩,⟨some 6,none,.call 104 [(.t 5)]⟩,⟨some 7,none,.un .not (.t 6)⟩]) (.cond (.t 7) (.seq (.reg [⟨some 2,none,.mov (.c (.bool false))⟩]) .ret) .skip)) (.seq (.reg [⟨some 9,none,.ld (some 522) (.t 1)⟩,⟨some 10,none,.call 105 [(.t 9)]⟩,⟨some 8,none,.mov (.t 10)⟩,⟨some 11,none,.ex (.t 8) 0⟩,⟨some 12,none,.ex (.t 8) 1⟩,⟨some 3,none,.mov (.t 11)⟩,⟨some 4,none,.mov (.t 12)⟩]) (.seq (.reg [⟨some 13,none,.mov (.t 4)⟩,⟨some 14,none,.un .not (.t 13)⟩,⟨some 15,none,.mov (.t 14)⟩,⟨some 16,(some (15,true)),.ld (some 522) (.t 1)⟩,⟨some 17,(some (15,true)),.call 106 [(.t 16)]⟩,⟨some 18,none,.pick (.t 15) (.t 17) (.c (.bool false))⟩,⟨some 2,none,.mov (.t 18)⟩]) .ret))))
set_option maxRecDepth 100000 in
theorem tr80 : trFn Tryz.prog Tryz.f80 = some (19, ir80, [.tmp 2]) := by kernel_rfl
theorem spec_l02Is (p n' : Int) (u m : Nat → Int) (K : Nat → SV) (H : Hp) (n : Nat) (h0 : K 0 = .int .i64 p) (h1 : K 1 = .int .i64 n')
    (hU : ∀ q, q < 8 → K (2 + q) = .int .u8 (u q)) (hK : ∀ q, q < 512 → K (10 + q) = .int .u8 (m q)) (hu : isBy 8 u) (hm : isBy 512 m) :
    FnS Tryz.prog 80 [.arr 522 K] H n (fun v H' _ => v = bl (tb (isCoalg p n' u m)) ∧ H' = H) := by
  refine FnS.of_body Tryz.func80 tr80 (by simp) (fun hf => ?_)
  dsimp only [argEnv]
  unfold ir80
  (refine zG ?_)
  refine RS.call rfl ((FnS.args (concs_cons (conc_arr (fun q hq => rfl)) rfl) (spec_l02Shape p n' u m K _ _ h0 h1 hU hK hu hm)).mono ?_)
  rintro r H n2 hn2 ⟨rfl, rfl⟩
  (refine zG ?_)
  refine zI ?_ ?_<;>intro h2
  · (refine zG ?_)
    exact ⟨_, H, rfl, by exact zD, by rw [tb_false (fun h => h2 h.1)], rfl⟩
  · obtain ⟨hz1, hz2, hz3⟩ := h2.1
    obtain ⟨a, rfl⟩ := Int.eq_ofNat_of_zero_le (show 0 ≤ n' by omega)
    have hp := isP_le hz1
    have ha : a ≤ 8 := by omega
    (refine zG ?_)
    refine RS.call rfl ((FnS.args (concs_cons (conc_arr (fun q hq => rfl)) rfl) (spec_l02Fault p a m K _ _ hp (by omega) ha h0 h1 hK hm)).mono ?_)
    rintro r H n3 hn3 ⟨⟨s, rfl⟩, rfl⟩
    (refine zG ?_)
    refine RS.sp (t := 15) rfl (fun h3 => ?_) (fun h3 => ?_) <;> (try simp only [tb_eq, tb_eqF, decide_eq_true_eq, decide_eq_false_iff_not, beq_iff_eq, bne_iff_ne, ne_eq, Decidable.not_not, beq_eq_false_iff_ne, bne_eq_false_iff_eq, Bool.not_eq_true', Bool.not_eq_false', Bool.not_eq_eq_eq_not, Bool.not_true, Bool.not_false] at h3)
    · (refine zG ?_)
      refine RS.call rfl ((FnS.args (concs_cons (conc_arr (fun q hq => rfl)) rfl) (spec_l02Counits p a u m K _ _ hp ha h0 h1 hU hK hu hm h2.2.1.vz)).mono ?_)
      rintro r H n4 hn4 ⟨rfl, rfl⟩
      (refine zG ?_)
      exact ⟨_, H, rfl, by exact zD, congrArg bl (tb_iff ⟨fun h => isCoalg_nat.2 ⟨h2, h, h3⟩, fun h => h.2.1⟩), rfl⟩
    · (refine zG ?_)
      exact ⟨_, H, rfl, by exact zD, by rw [tb_false (fun h => h3 h.2.2)], rfl⟩
/-- spec.l03Pairs -/
def ir83 : Cd := (.seq (.reg [⟨some 3,none,.box 40 (.t 0)⟩,⟨some 4,none,.box 36 (.t 1)⟩,⟨some 5,none,.box 36 (.t 2)⟩,⟨some 6,none,.new 36 [(64,(.int .u8 0))]⟩]) (.seq (.mix [⟨some 15,none,.fa 0 (.t 3)⟩,⟨some 16,none,.ld none (.t 15)⟩,⟨some 17,none,.fa 1 (.t 3)⟩,⟨some 18,none,.ld none (.t 17)⟩,⟨some 19,none,.build 64 [(64,(.int .u8 0))] []⟩] [⟨some 9,none,.new 36 [(64,(.int .u8 0))]⟩,⟨some 7,none,.mov (.t 16)⟩,⟨some 8,none,.mov (.t 18)⟩,⟨none,none,.st 64 (.t 9) (.t 19)⟩]) (.seq (.seq (.reg [⟨some 10,none,.mov (.c (.int .i64 0))⟩]) (.block 0 (.loop (.seq (.seq (.reg [⟨some 20,none,.mov (.t 10)⟩,⟨some 21,none,.mov (.t 8)⟩,⟨some 22,none,.bin .lss (.t 20) (.t 21)⟩]) (.cond (.t 22) .skip (.exit 0))) (.seq (.block 1 (.seq (.reg [⟨some 11,none,.mov (.c (.int .i64 0))⟩]) (.block 2 (.loop (.seq (.seq (.reg [⟨some 25,none,.mov (.t 11)⟩,⟨some 26,none,.mov (.t 8)⟩,⟨some 27,none,.bin .lss (.t 25) (.t 26)⟩]) (.cond (.t 27) .skip (.exit 2))) (.seq (.block 3 (.seq (.mix [⟨some 30,none,.ld (some 1106) (.t 3)⟩,⟨some 31,none,.call 60 [(.t 30)]⟩,⟨some 32,none,.mov (.t 10)⟩,⟨some 33,none,.ia 8 8 (.t 4) (.t 32)⟩,⟨some 34,none,.ld (some 8) (.t 33)⟩,⟨some 35,none,.mov (.t 11)⟩,⟨some 36,none,.ia 8 8 (.t 5) (.t 35)⟩,⟨some 37,none,.ld (some 8) (.t 36)⟩,⟨some 38,none,.call 27 [(.t 31),(.t 34),(.t 37)]⟩] [⟨some 12,none,.new 34 [(8,(.int .u8 0))]⟩,⟨none,none,.st 8 (.t 12) (.t 38)⟩]) (.seq (.seq (.reg [⟨some 39,none,.ld (some 8) (.t 12)⟩,⟨some 40,none,.call 88 [(.t 39)]⟩]) (.cond (.t 40) (.exit 3) .skip)) (.seq (.reg [⟨some 13,none,.mov (.c (.int .i64 0))⟩]) (.block 4 (.loop (.seq (.seq (.reg [⟨some 41,none,.mov (.t 13)⟩,⟨some 42,none,.mov (.t 8)⟩,⟨some 43,none,.bin .lss (.t 41) (.t 42)⟩]) (.cond (.t 43) .skip (.exit 4))) (.seq (.block 5 (.seq (.reg [⟨some 46,none,.mov (.t 10)⟩,⟨some 47,none,.mov (.t 11)⟩,⟨some 48,none,.mov (.t 13)⟩,⟨some 49,none,.fa 10 (.t 3)⟩,⟨some 50,none,.ia 8 64 (.t 49) (.t 46)⟩,⟨some 51,none,.ia 8 8 (.t 50) (.t 47)⟩,⟨some 52,none,.ia 8 1 (.t 51) (.t 48)⟩,⟨some 53,none,.ld none (.t 52)⟩,⟨some 14,none,.mov (.t 53)⟩]) (.seq (.reg [⟨some 54,none,.mov (.t 14)⟩,⟨some 55,none,.bin .neq (.t 54) (.c (.int .u8 0))⟩]) (.cond (.t 55) (.drw true [10] [⟨some 56,none,.mov (.t 13)⟩,⟨some 57,none,.mov (.t 7)⟩,⟨some 58,none,.mov (.t 13)⟩,⟨some 59,none,.ia 8 8 (.t 9) (.t 58)⟩,⟨some 60,none,.ld (some 8) (.t 59)⟩,⟨some 61,none,.ld (some 8) (.t 12)⟩,⟨some 62,none,.mov (.t 14)⟩,⟨some 63,none,.cv .i64 (.t 62)⟩,⟨some 64,none,.call 26 [(.t 57),(.t 60),(.t 61),(.t 63)]⟩,⟨some 65,none,.ia 8 8 (.t 9) (.t 56)⟩,⟨none,none,.st 8 (.t 65) (.t 64)⟩]) .skip)))) (.reg [⟨some 44,none,.mov (.t 13)⟩,⟨some 45,none,.bin .add (.t 44) (.c (.int .i64 1))⟩,⟨some 13,none,.mov (.t 45)⟩]))))))))) (.reg [⟨some 28,none,.mov (.t 11)⟩,⟨some 29,none,.bin .add (.t 28) (.c (.int .i64 1))⟩,⟨some 11,none,.mov (.t 29)⟩]))))))) (.reg [⟨some 23,none,.mov (.t 10)⟩,⟨some 24,none,.bin .add (.t 23) (.c (.int .i64 1))⟩,⟨some 10,none,.mov (.t 24)⟩])))))) (.seq (.reg [⟨some 66,none,.ld (some 64) (.t 9)⟩,⟨none,none,.st 64 (.t 6) (.t 66)⟩]) .ret))))
set_option maxRecDepth 100000 in
theorem tr83 : trFn Tryz.prog Tryz.f83 = some (67, ir83, [.cell (some 64) 6]) := by kernel_rfl
theorem spec_l03Pairs (h : HT) (a : Nat) (f g : Nat → Int) (K : Nat → SV) (H : Hp) (n : Nat) (hS : HS h a) (hK : h.At K) (hB : h.By) (hA : isBy 64 f) (hG : isBy 64 g) :
    FnS Tryz.prog 83 [.arr 1106 K, .arr 64 (bys f), .arr 64 (bys g)] H n (fun r H' _ => r = .arr 64 (bys (ten h.p h.m f g)) ∧ H' = H) := by
  have hp := hS.hp
  have ha := hS.ha
  have hk0 := hK.p
  have hk1 := hK.n
  rw [hS.hn] at hk1
  have hk5 := hK.m
  refine FnS.of_body Tryz.func83 tr83 (by simp) (fun hf => ?_)
  dsimp only [argEnv]
  unfold ir83
  (repeat first|refine zG ?_|(refine LS.nilO ?_;intro nq hnq hltq;try refine zU ?_)|(refine MS.new ?_;intro bq hbq hbqf;try refine zU ?_)|(refine MS.nil ?_;intro nq hnq hltq;have hlq:=hltq _ _ (Hp.get_eq _ _ _);clear hltq;try refine zU ?_)|(refine LS.nilQ ?_;try with_reducible intro nq hnq;try refine zU ?_))
  revert bq
  intro b1 hb1 hb1f hl1
  refine CS.iter a (fun j => [(10, i64 j), (3, ptr n 0), (4, ptr (n + 1) 0), (5, ptr (n + 2) 0), (6, ptr (n + 3) 0), (7, i64 h.p), (8, i64 a), (9, ptr b1 0)])
    (fun j => (b1, ⟨64, bys (tsr h.p h.m f g a j 0), 36⟩) :: (n + 3, ⟨64, bys (fun _ => 0), 36⟩) :: (n + 2, ⟨64, bys g, 36⟩) :: (n + 1, ⟨64, bys f, 36⟩) :: (n, ⟨1106, K, 40⟩) :: H) (fun _ => True) (by (repeat first | exact trivial | refine And.intro rfl ?_))
    (Drops.keepc rfl rfl (fun _ _ => by rw [tsr_zero]; rfl) (Drops.keepc rfl rfl (fun _ _ => rfl) (Drops.refl _ _))) trivial ?_
  intro j n3 hj hn _
  (refine zG ?_)
  refine zI ?_ ?_<;>intro h2
  · (refine zG ?_)
    refine CS.iter a (fun l => [(11, i64 l), (10, i64 j), (3, ptr n 0), (4, ptr (n + 1) 0), (5, ptr (n + 2) 0), (6, ptr (n + 3) 0), (7, i64 h.p), (8, i64 a), (9, ptr b1 0)])
      (fun l => (b1, ⟨64, bys (tsr h.p h.m f g a j l), 36⟩) :: (n + 3, ⟨64, bys (fun _ => 0), 36⟩) :: (n + 2, ⟨64, bys g, 36⟩) :: (n + 1, ⟨64, bys f, 36⟩) :: (n, ⟨1106, K, 40⟩) :: H) (fun _ => True) (by (repeat first | exact trivial | refine And.intro rfl ?_))
      (Drops.refl _ _) trivial ?_
    intro l n4 hl hn4 _
    (refine zG ?_)
    refine zI ?_ ?_<;>intro h3
    · (refine zG ?_)
      refine LS.callQ (.arr 522 K) rfl (fun n' hn' => FnS.args (concs_cons (conc_arr (fun q hq => rfl)) rfl) (spec_l03Algebra K h _ _ hK)) ?_
      (refine zG ?_)
      refine LS.callQ (.arr 8 (bys (pr h.p h.m (fun x => f (8 * j + x)) (fun x => g (8 * l + x)) a))) rfl (fun n' hn' => spec_l01Times h.p a h.m (fun x => f (8 * j + x)) (fun x => g (8 * l + x)) K _ _ hp ha hk0 hk1 hk5 hB.m (fun x hx => hA _ (by omega)) (fun x hx => hG _ (by omega))) ?_
      have hpr := pr_res hp.1 h.m (fun x => f (8 * j + x)) (fun x => g (8 * l + x)) a 8
      (repeat first|refine zG ?_|(refine LS.nilO ?_;intro nq hnq hltq;try refine zU ?_)|(refine MS.new ?_;intro bq hbq hbqf;try refine zU ?_)|(refine MS.nil ?_;intro nq hnq hltq;have hlq:=hltq _ _ (Hp.get_eq _ _ _);clear hltq;try refine zU ?_)|(refine LS.nilQ ?_;try with_reducible intro nq hnq;try refine zU ?_))
      refine RS.call rfl ((spec_l01Zero (pr h.p h.m (fun x => f (8 * j + x)) (fun x => g (8 * l + x)) a) _ _).mono ?_)
      rintro r H n5 hn5 ⟨rfl, rfl⟩
      (refine zG ?_)
      refine zI ?_ ?_<;>intro h4
      · (refine zG ?_)
        exact ⟨by omega, by (repeat first | exact trivial | refine And.intro rfl ?_), Drops.drop (by omega) (by simp (disch := omega) only [Hp.get_ne]; exact hf _ (by omega)) (Drops.keepc rfl rfl (fun q hq => by simp only [bys]; rw [tsr_same (twr_zero h4 q)]) (Drops.refl _ _)), trivial⟩
      · (refine zG ?_)
        refine CS.iter a (fun x => [(13, i64 x), (12, ptr bq 0), (11, i64 l), (10, i64 j), (3, ptr n 0), (4, ptr (n + 1) 0), (5, ptr (n + 2) 0), (6, ptr (n + 3) 0), (7, i64 h.p), (8, i64 a), (9, ptr b1 0)])
          (fun x => (bq, ⟨8, bys (pr h.p h.m (fun x => f (8 * j + x)) (fun x => g (8 * l + x)) a), 34⟩) :: (b1, ⟨64, bys (rowsTo (tsr h.p h.m f g a j l) (tsr h.p h.m f g a j (l + 1)) x), 36⟩) :: (n + 3, ⟨64, bys (fun _ => 0), 36⟩) :: (n + 2, ⟨64, bys g, 36⟩) :: (n + 1, ⟨64, bys f, 36⟩) :: (n, ⟨1106, K, 40⟩) :: H) (fun _ => True) (by (repeat first | exact trivial | refine And.intro rfl ?_))
          (Drops.keepc rfl rfl (fun _ _ => rfl) (Drops.keepc rfl rfl (fun _ _ => by rw [rowsTo_zero]) (Drops.refl _ _))) trivial ?_
        intro x n6 hx hn6 _
        (refine zG ?_)
        refine zI ?_ ?_<;>intro h5
        · have hmx := hB.m (64 * j + 8 * l + x) (by omega)
          (refine zG ?_)
          refine zI ?_ ?_<;>intro h6
          · have hr : ∀ q, q < 8 → (bys (rowsTo (tsr h.p h.m f g a j l) (tsr h.p h.m f g a j (l + 1)) x)) (8 * x + q) = .int .u8 (tsr h.p h.m f g a j l (8 * x + q)) := fun y hy => by simp only [bys, rowsTo]; rw [if_neg (by omega)]
            (refine zG ?_)
            refine LS.callQ (.arr 8 (bys (pl h.p (fun y => tsr h.p h.m f g a j l (8 * x + y)) (h.m (64 * j + 8 * l + x)) (pr h.p h.m (fun x => f (8 * j + x)) (fun x => g (8 * l + x)) a)))) rfl (fun n' hn' => spec_l01Add h.p (h.m (64 * j + 8 * l + x)) (fun y => tsr h.p h.m f g a j l (8 * x + y)) (pr h.p h.m (fun x => f (8 * j + x)) (fun x => g (8 * l + x)) a) _ _ hp (fun y hy => (tsr_res hp.1 h.m f g a j l 64).by hp.2 _ (by omega)) (hpr.by hp.2) (by omega)) ?_
            (repeat first|refine zG ?_|(refine LS.nilO ?_;intro nq hnq hltq;try refine zU ?_)|(refine MS.new ?_;intro bq hbq hbqf;try refine zU ?_)|(refine MS.nil ?_;intro nq hnq hltq;have hlq:=hltq _ _ (Hp.get_eq _ _ _);clear hltq;try refine zU ?_)|(refine LS.nilQ ?_;try with_reducible intro nq hnq;try refine zU ?_))
            exact ⟨by omega, by (repeat first | exact trivial | refine And.intro rfl ?_), Drops.keepc rfl rfl (fun _ _ => rfl) (Drops.keepc rfl rfl (fun q hq => rowsTo_step (fun y hy => tsr_row _ _ _ _ _ _ _ _ _ hy) q) (Drops.refl _ _)), trivial⟩
          · (refine zG ?_)
            exact ⟨by omega, by (repeat first | exact trivial | refine And.intro rfl ?_), Drops.keepc rfl rfl (fun _ _ => rfl) (Drops.keepc rfl rfl (fun q hq => by
              simp only [bys]; rw [rowsTo_keep (fun y hy => (tsr_same (by unfold twr; rw [show (8 * x + y) / 8 = x by omega, h6, Int.zero_mul])).symm)]) (Drops.refl _ _)), trivial⟩
        · have : x = a := by omega
          subst this
          (refine zG ?_)
          exact ⟨by omega, by (repeat first | exact trivial | refine And.intro rfl ?_), Drops.drop (by omega) (by simp (disch := omega) only [Hp.get_ne]; exact hf _ (by omega)) (Drops.keepc rfl rfl (fun q hq => by simp only [bys]; rw [rowsTo_all (fun q h1 h2 => tsr_out hS.mm (by omega) (by omega) h1 h2) hq]) (Drops.refl _ _)), trivial⟩
    · have : l = a := by omega
      subst this
      (refine zG ?_)
      exact ⟨by omega, by (repeat first | exact trivial | refine And.intro rfl ?_), by rw [tsr_next]; exact Drops.refl _ _, trivial⟩
  · have : j = a := by omega
    subst this
    (refine zG ?_)
    exact ⟨.arr 64 (bys (ten h.p h.m f g)), H, conc_arr (fun q hq => by simp only [Nat.zero_add, bys]; rw [tsr_end hS.mm ha hq]), by exact zD, rfl, rfl⟩
/-- (*impl.Hopf).axiom4 -/
def ir115 : Cd := (.seq (.reg [⟨some 2,none,.mov (.c (.bool false))⟩]) (.seq (.drwo true [16] [0,1,2,3,4,6,8,9,10,11,12,13,14,15,5,7,16,17,18] [⟨some 3,none,.mov (.t 0)⟩,⟨some 4,none,.mov (.t 0)⟩,⟨some 5,none,.ck (.t 4)⟩,⟨some 6,none,.fa 2 (.t 5)⟩,⟨some 7,none,.ld (some 8) (.t 6)⟩,⟨some 8,none,.call 127 [(.t 3),(.t 7)]⟩,⟨some 9,none,.mov (.t 0)⟩,⟨some 10,none,.call 129 [(.t 9)]⟩,⟨some 11,none,.mov (.t 0)⟩,⟨some 12,none,.ck (.t 11)⟩,⟨some 13,none,.fa 2 (.t 12)⟩,⟨some 14,none,.ld (some 8) (.t 13)⟩,⟨some 15,none,.mov (.t 0)⟩,⟨some 16,none,.ck (.t 15)⟩,⟨some 17,none,.fa 2 (.t 16)⟩,⟨some 18,none,.ld (some 8) (.t 17)⟩,⟨some 19,none,.call 130 [(.t 10),(.t 14),(.t 18)]⟩,⟨some 20,none,.eqa false 64 (.t 8) (.t 19)⟩,⟨some 2,none,.mov (.t 20)⟩]) .ret))
set_option maxRecDepth 100000 in
theorem tr115 : trFn Tryz.prog Tryz.f115 = some (21, ir115, [.tmp 2]) := by kernel_rfl
theorem Hopf_axiom4 (h : HT) (a : Nat) (b : Nat) (K : Blk) (H : Hp) (n : Nat) (hS : HS h a) (hb : H.get b = some K) (hsz : K.size = 1106) (hK : h.At K.c) (hB : h.By) :
    FnS Tryz.prog 115 [ptr b 0] H n (fun r H' _ => r = bl (tb (ax4 h)) ∧ H' = H) := by
  have hp := hS.hp
  have ha := hS.ha
  have hk1 := hK.n
  rw [hS.hn] at hk1
  have hk5 := hK.u
  refine FnS.of_body Tryz.func115 tr115 (by simp) (fun hf => ?_)
  dsimp only [argEnv]
  unfold ir115
  have hbn := getlt hf hb
  (refine zG ?_)
  refine CS.quietLo ?_
  (refine zG ?_)
  refine LS.callQ (.arr 64 (bys (cps h.p h.c h.u 8))) rfl (fun n' hn' => Hopf_coproduct h a h.u b K _ _ hS (by exact zH) hsz hK hB hB.u) ?_
  (refine zG ?_)
  refine LS.callQ (fld h.p a) rfl (fun n' hn' => Hopf_field h.p a b K _ _ (by exact zH) hsz hK.p hk1 (by omega)) ?_
  (refine zG ?_)
  refine LS.callQ (.arr 64 (bys (outer h.p h.u h.u))) rfl (fun n' hn' => field_pair h.p a h.u h.u _ _ hp hB.u hB.u) ?_
  (repeat first|refine zG ?_|(refine LS.nilO ?_;intro nq hnq hltq;try refine zU ?_)|(refine MS.new ?_;intro bq hbq hbqf;try refine zU ?_)|(refine MS.nil ?_;intro nq hnq hltq;have hlq:=hltq _ _ (Hp.get_eq _ _ _);clear hltq;try refine zU ?_)|(refine LS.nilQ ?_;try with_reducible intro nq hnq;try refine zU ?_))
  exact ⟨_, H, rfl, by exact zD, rfl, rfl⟩
/-- (*impl.Hopf).folded -/
def ir132 : Cd := (.seq (.reg [⟨some 3,none,.box 59 (.t 0)⟩,⟨some 5,none,.box 4 (.t 2)⟩,⟨some 6,none,.new 34 [(8,(.int .u8 0))]⟩]) (.seq (.reg [⟨some 9,none,.ld none (.t 3)⟩,⟨some 10,none,.call 129 [(.t 9)]⟩,⟨some 11,none,.build 8 [(8,(.int .u8 0))] []⟩,⟨some 7,none,.new 76 [(2,(.int .i64 0))]⟩,⟨some 8,none,.new 34 [(8,(.int .u8 0))]⟩,⟨none,none,.st 2 (.t 7) (.t 10)⟩,⟨none,none,.st 8 (.t 8) (.t 11)⟩]) (.seq (.reg [⟨some 12,none,.ld none (.t 3)⟩,⟨some 13,none,.mov (.t 1)⟩,⟨some 14,none,.ck (.t 12)⟩,⟨some 15,none,.fa 530 (.t 14)⟩,⟨some 16,none,.ia 8 64 (.t 15) (.t 13)⟩,⟨some 17,none,.mkf 138 [] [(.t 5),(.t 7),(.t 8),(.t 3)]⟩,⟨some 18,none,.call 50 [(.t 16),(.t 17)]⟩]) (.seq (.reg [⟨some 19,none,.ld (some 8) (.t 8)⟩,⟨none,none,.st 8 (.t 6) (.t 19)⟩]) .ret))))
set_option maxRecDepth 100000 in
theorem tr132 : trFn Tryz.prog Tryz.f132 = some (20, ir132, [.cell (some 8) 6]) := by kernel_rfl
theorem Hopf_folded (h : HT) (a : Nat) (i : Nat) (fp : Bool) (g : Nat → Nat → Int) (hg : g = if fp = true then g6 h.p h.m h.s a else g7 h.p h.m h.s a) (hi : i < 8)
    (b : Nat) (K : Blk) (H : Hp) (n : Nat) (hS : HS h a) (hb : H.get b = some K) (hsz : K.size = 1106) (hK : h.At K.c) (hB : h.By) :
    FnS Tryz.prog 132 [ptr b 0, i64 i, bl fp] H n (fun r H' _ => r = .arr 8 (bys (fold h.p h.c i g 64)) ∧ H' = H) := by
  have hp := hS.hp
  have ha := hS.ha
  have hk1 := hK.n
  rw [hS.hn] at hk1
  have hk6 := hK.c
  refine FnS.of_body Tryz.func132 tr132 (by simp) (fun hf => ?_)
  dsimp only [argEnv]
  unfold ir132
  have hbn := getlt hf hb
  (refine zG ?_)
  refine RS.call rfl ((Hopf_field h.p a b K _ _ (by exact zH) hsz hK.p hk1 (by omega)).mono ?_)
  rintro r H n2 hn2 ⟨rfl, rfl⟩
  (refine zG ?_)
  refine RS.call rfl ((impl_pairs (fun q => h.c (64 * i + q)) b (530 + 64 * i) _ _ (fun t => (n2 + 1, ⟨8, bys (fold h.p h.c i g t), 34⟩) :: (n2, ⟨2, fldC h.p a, 76⟩) :: (n + 2, ⟨8, fun _ => .int .u8 0, 34⟩) :: (n + 1, ⟨1, fun _ => .bool fp, 4⟩) :: (n, ⟨1, fun _ => .ptr b 0, 59⟩) :: H) _ _ (by (try dsimp only); rw [fold_zero]; rfl)
    (fun s hs => ⟨K, by exact zH, by omega, fun q hq => by rw [Nat.add_assoc]; exact hk6 _ (by omega)⟩) (hB.rowc hi) (fun s hs hz => by (try dsimp only); rw [fold_skip hz]) (fun t j k n' ht ht' hk hz hn' => ?_)).mono ?_)
  · refine (Hopf_folded_1 h a i t j k fp g hg hi ht' (by omega) hk b (n + 1) n2 (n2 + 1) n K _ _ _ n' hS (by exact zH) hsz hK hB (by exact zH) rfl rfl (by exact zH) (by exact zH) (by exact zH) rfl rfl).mono ?_
    rintro r H' n3 hn3 rfl
    simp (disch := omega) only [Hp.set_eq, Hp.set_ne, Hp.set_set]
  rintro r H' n3 hn3 rfl
  (refine zG ?_)
  exact ⟨.arr 8 (bys (fold h.p h.c i g 64)), _, conc_arr (fun q hq => by simp only [Nat.zero_add]), by exact zD, rfl, rfl⟩
end Go.Proofs.YtmkegkpabifpfaaGreat

/- Contracts of the program's functions. -/
namespace Go.Proofs.YtmkegkpabifpfaaGreat
open Go.V
set_option linter.unusedSimpArgs false
set_option linter.unusedVariables false
set_option maxHeartbeats 4000000
/-- spec.l01Fault -/
def ir41 : Cd := (.seq (.reg [⟨some 1,none,.box 43 (.t 0)⟩,⟨some 2,none,.mov (.c .nils)⟩,⟨some 3,none,.mov (.c (.bool false))⟩]) (.seq (.seq (.reg [⟨some 4,none,.mov (.c (.int .i64 0))⟩]) (.block 0 (.loop (.seq (.seq (.reg [⟨some 7,none,.mov (.t 4)⟩,⟨some 8,none,.fa 1 (.t 1)⟩,⟨some 9,none,.ld none (.t 8)⟩,⟨some 10,none,.bin .lss (.t 7) (.t 9)⟩]) (.cond (.t 10) .skip (.exit 0))) (.seq (.block 1 (.seq (.reg [⟨some 5,none,.mov (.c (.int .i64 0))⟩]) (.block 2 (.loop (.seq (.seq (.reg [⟨some 13,none,.mov (.t 5)⟩,⟨some 14,none,.fa 1 (.t 1)⟩,⟨some 15,none,.ld none (.t 14)⟩,⟨some 16,none,.bin .lss (.t 13) (.t 15)⟩]) (.cond (.t 16) .skip (.exit 2))) (.seq (.block 3 (.seq (.reg [⟨some 6,none,.mov (.c (.int .i64 0))⟩]) (.block 4 (.loop (.seq (.seq (.reg [⟨some 19,none,.mov (.t 6)⟩,⟨some 20,none,.fa 1 (.t 1)⟩,⟨some 21,none,.ld none (.t 20)⟩,⟨some 22,none,.bin .lss (.t 19) (.t 21)⟩]) (.cond (.t 22) .skip (.exit 4))) (.seq (.block 5 (.seq (.drwo true [19] [0,1,2,3,4,5,6,7,10,11,13,14,15,16,17,18,8,9,12,19,20] [⟨some 25,none,.ld (some 522) (.t 1)⟩,⟨some 26,none,.mov (.t 4)⟩,⟨some 27,none,.mov (.t 5)⟩,⟨some 28,none,.fa 10 (.t 1)⟩,⟨some 29,none,.ia 8 64 (.t 28) (.t 26)⟩,⟨some 30,none,.ia 8 8 (.t 29) (.t 27)⟩,⟨some 31,none,.ld (some 8) (.t 30)⟩,⟨some 32,none,.mov (.t 6)⟩,⟨some 33,none,.call 40 [(.t 32)]⟩,⟨some 34,none,.call 27 [(.t 25),(.t 31),(.t 33)]⟩,⟨some 35,none,.ld (some 522) (.t 1)⟩,⟨some 36,none,.mov (.t 4)⟩,⟨some 37,none,.call 40 [(.t 36)]⟩,⟨some 38,none,.mov (.t 5)⟩,⟨some 39,none,.mov (.t 6)⟩,⟨some 40,none,.fa 10 (.t 1)⟩,⟨some 41,none,.ia 8 64 (.t 40) (.t 38)⟩,⟨some 42,none,.ia 8 8 (.t 41) (.t 39)⟩,⟨some 43,none,.ld (some 8) (.t 42)⟩,⟨some 44,none,.call 27 [(.t 35),(.t 37),(.t 43)]⟩,⟨some 45,none,.eqa true 8 (.t 34) (.t 44)⟩]) (.cond (.t 45) (.seq (.reg [⟨some 46,none,.mov (.t 4)⟩,⟨some 47,none,.mov (.t 5)⟩,⟨some 48,none,.mov (.t 6)⟩,⟨some 49,none,.bsl 2 3 1 [(1,(.int .i64 0))] [(0,1,(.t 46)),(1,1,(.t 47)),(2,1,(.t 48))]⟩,⟨some 2,none,.mov (.t 49)⟩,⟨some 3,none,.mov (.c (.bool true))⟩]) .ret) .skip))) (.reg [⟨some 23,none,.mov (.t 6)⟩,⟨some 24,none,.bin .add (.t 23) (.c (.int .i64 1))⟩,⟨some 6,none,.mov (.t 24)⟩]))))))) (.reg [⟨some 17,none,.mov (.t 5)⟩,⟨some 18,none,.bin .add (.t 17) (.c (.int .i64 1))⟩,⟨some 5,none,.mov (.t 18)⟩]))))))) (.reg [⟨some 11,none,.mov (.t 4)⟩,⟨some 12,none,.bin .add (.t 11) (.c (.int .i64 1))⟩,⟨some 4,none,.mov (.t 12)⟩])))))) (.seq (.reg [⟨some 2,none,.mov (.c .nils)⟩,⟨some 3,none,.mov (.c (.bool false))⟩]) .ret)))
set_option maxRecDepth 100000 in
theorem tr41 : trFn Tryz.prog Tryz.f41 = some (50, ir41, [.tmp 2, .tmp 3]) := by kernel_rfl
theorem spec_l01Fault (p : Int) (a : Nat) (m : Nat → Int) (K : Nat → SV) (H : Hp) (n : Nat) (hp : 2 ≤ p ∧ p ≤ 31) (ha : a ≤ 8)
    (h0 : K 0 = .int .i64 p) (h1 : K 1 = .int .i64 a) (hK : ∀ q, q < 512 → K (10 + q) = .int .u8 (m q)) (hm : isBy 512 m) :
    FnS Tryz.prog 41 [.arr 522 K] H n (fun r H' _ => (∃ s, r = .tup [.s s, bl (!tb (assoc p a m))]) ∧ H' = H) := by
  refine FnS.of_body Tryz.func41 tr41 (by simp) (fun hf => ?_)
  dsimp only [argEnv]
  unfold ir41
  (refine zG ?_)
  refine CS.iter a (fun i => [(4, i64 i), (1, ptr n 0)]) (fun _ => (n, ⟨522, K, 43⟩) :: H)
    (fun i => ∀ i' j k : Nat, i' < i → j < a → k < a → ∀ q, q < 8 → pr p m (fun x => m (64 * i' + 8 * j + x)) (bas k) a q = pr p m (bas i') (fun x => m (64 * j + 8 * k + x)) a q) (by (repeat first | exact trivial | refine And.intro rfl ?_)) (Drops.refl _ _) (fun _ _ _ h => by omega) ?_
  intro i n1 hi hn hJ
  (refine zG ?_)
  refine zI ?_ ?_<;>intro h2
  · (refine zG ?_)
    refine CS.iter a (fun j => [(5, i64 j), (4, i64 i), (1, ptr n 0)]) (fun _ => (n, ⟨522, K, 43⟩) :: H)
      (fun j => ∀ j' k : Nat, j' < j → k < a → ∀ q, q < 8 → pr p m (fun x => m (64 * i + 8 * j' + x)) (bas k) a q = pr p m (bas i) (fun x => m (64 * j' + 8 * k + x)) a q) (by (repeat first | exact trivial | refine And.intro rfl ?_)) (Drops.refl _ _) (fun _ _ h => by omega) ?_
    intro j n2 hj hn2 hJ2
    (refine zG ?_)
    refine zI ?_ ?_<;>intro h3
    · (refine zG ?_)
      refine CS.iter a (fun k => [(6, i64 k), (5, i64 j), (4, i64 i), (1, ptr n 0)]) (fun _ => (n, ⟨522, K, 43⟩) :: H)
        (fun k => ∀ k' : Nat, k' < k → ∀ q, q < 8 → pr p m (fun x => m (64 * i + 8 * j + x)) (bas k') a q = pr p m (bas i) (fun x => m (64 * j + 8 * k' + x)) a q) (by (repeat first | exact trivial | refine And.intro rfl ?_)) (Drops.refl _ _) (fun _ h => by omega) ?_
      intro k n3 hk hn3 hJ3
      (refine zG ?_)
      refine zI ?_ ?_<;>intro h4
      · (refine zG ?_)
        refine CS.quietLo ?_
        (refine zG ?_)
        refine LS.callQ (.arr 8 (bys (bas k))) rfl (fun n' hn' => spec_l01Basis k _ _ (by omega)) ?_
        (repeat first|refine zG ?_|(refine LS.nilO ?_;intro nq hnq hltq;try refine zU ?_)|(refine MS.new ?_;intro bq hbq hbqf;try refine zU ?_)|(refine MS.nil ?_;intro nq hnq hltq;have hlq:=hltq _ _ (Hp.get_eq _ _ _);clear hltq;try refine zU ?_)|(refine LS.nilQ ?_;try with_reducible intro nq hnq;try refine zU ?_))
        refine LS.callQ (.arr 8 (bys (pr p m (fun x => m (64 * i + 8 * j + x)) (bas k) a))) rfl (fun n' hn' => spec_l01Times p a m (fun x => m (64 * i + 8 * j + x)) (bas k) _ _ _ hp ha h0 h1 hK hm (fun x hx => hm _ (by omega)) (bas_by _ _)) ?_
        (refine zG ?_)
        refine LS.callQ (.arr 8 (bys (bas i))) rfl (fun n' hn' => spec_l01Basis i _ _ (by omega)) ?_
        (refine zG ?_)
        refine LS.callQ (.arr 8 (bys (pr p m (bas i) (fun x => m (64 * j + 8 * k + x)) a))) rfl (fun n' hn' => spec_l01Times p a m (bas i) (fun x => m (64 * j + 8 * k + x)) _ _ _ hp ha h0 h1 hK hm (bas_by _ _) (fun x hx => hm _ (by omega))) ?_
        (repeat first|refine zG ?_|(refine LS.nilO ?_;intro nq hnq hltq;try refine zU ?_)|(refine MS.new ?_;intro bq hbq hbqf;try refine zU ?_)|(refine MS.nil ?_;intro nq hnq hltq;have hlq:=hltq _ _ (Hp.get_eq _ _ _);clear hltq;try refine zU ?_)|(refine LS.nilQ ?_;try with_reducible intro nq hnq;try refine zU ?_))
        refine zI ?_ ?_<;>intro h5
        · (refine zG ?_)
          exact ⟨_, H, rfl, by exact zD, ⟨_, by rw [tb_false (fun h : assoc p a m => h5 (h i j k (by omega) (by omega) (by omega)))]; rfl⟩, rfl⟩
        · (refine zG ?_)
          refine ⟨by omega, by (repeat first | exact trivial | refine And.intro rfl ?_), Drops.refl _ _, fun k' hk' => ?_⟩
          by_cases e : k' = k
          · subst e; exact h5
          · exact hJ3 k' (by omega)
      · have : k = a := by omega
        subst this
        (refine zG ?_)
        refine ⟨by omega, by (repeat first | exact trivial | refine And.intro rfl ?_), Drops.refl _ _, fun j' k' hj' => ?_⟩
        by_cases e : j' = j
        · subst e; exact fun hk' => hJ3 k' hk'
        · exact hJ2 j' k' (by omega)
    · have : j = a := by omega
      subst this
      (refine zG ?_)
      refine ⟨by omega, by (repeat first | exact trivial | refine And.intro rfl ?_), Drops.refl _ _, fun i' j' k' hi' => ?_⟩
      by_cases e : i' = i
      · subst e; exact fun hj' hk' => hJ2 j' k' hj' hk'
      · exact hJ i' j' k' (by omega)
  · have : i = a := by omega
    subst this
    (refine zG ?_)
    exact ⟨_, H, rfl, by exact zD, ⟨_, by rw [tb_true (show assoc p i m from fun i' j' k' h1 h2 h3 => hJ i' j' k' h1 h2 h3)]; rfl⟩, rfl⟩
/-- (*impl.Hopf).tensor -/
def ir128 : Cd := (.seq (.reg [⟨some 3,none,.box 59 (.t 0)⟩,⟨some 5,none,.box 95 (.t 2)⟩,⟨some 6,none,.new 36 [(64,(.int .u8 0))]⟩]) (.seq (.reg [⟨some 9,none,.ld none (.t 3)⟩,⟨some 10,none,.call 129 [(.t 9)]⟩,⟨some 11,none,.build 64 [(64,(.int .u8 0))] []⟩,⟨some 7,none,.new 76 [(2,(.int .i64 0))]⟩,⟨some 8,none,.new 36 [(64,(.int .u8 0))]⟩,⟨none,none,.st 2 (.t 7) (.t 10)⟩,⟨none,none,.st 64 (.t 8) (.t 11)⟩]) (.seq (.reg [⟨some 12,none,.mov (.t 1)⟩,⟨some 13,none,.mkf 136 [] [(.t 5),(.t 3),(.t 7),(.t 8)]⟩,⟨some 14,none,.call 50 [(.t 12),(.t 13)]⟩]) (.seq (.reg [⟨some 15,none,.ld (some 64) (.t 8)⟩,⟨none,none,.st 64 (.t 6) (.t 15)⟩]) .ret))))
set_option maxRecDepth 100000 in
theorem tr128 : trFn Tryz.prog Tryz.f128 = some (16, ir128, [.cell (some 64) 6]) := by kernel_rfl
theorem Hopf_tensor (h : HT) (a : Nat) (A B : Nat → Int) (b bA oA bB oB : Nat) (K KA KB : Blk) (H : Hp) (n : Nat) (hS : HS h a) (hb : H.get b = some K) (hsz : K.size = 1106) (hK : h.At K.c) (hB : h.By)
    (hA : isBy 64 A) (hBb : isBy 64 B) (gA : H.get bA = some KA) (sA : oA + 64 ≤ KA.size) (cA : ∀ q, q < 64 → KA.c (oA + q) = .int .u8 (A q))
    (gB : H.get bB = some KB) (sB : oB + 64 ≤ KB.size) (cB : ∀ q, q < 64 → KB.c (oB + q) = .int .u8 (B q)) :
    FnS Tryz.prog 128 [ptr b 0, ptr bA oA, ptr bB oB] H n (fun r H' _ => r = .arr 64 (bys (ten h.p h.m A B)) ∧ H' = H) := by
  have hp := hS.hp
  have ha := hS.ha
  have hk1 := hK.n
  rw [hS.hn] at hk1
  refine FnS.of_body Tryz.func128 tr128 (by simp) (fun hf => ?_)
  dsimp only [argEnv]
  unfold ir128
  have hbn := getlt hf hb
  have hbn1 := getlt hf gA
  have hbn2 := getlt hf gB
  (refine zG ?_)
  refine RS.call rfl ((Hopf_field h.p a b K _ _ (by exact zH) hsz hK.p hk1 (by omega)).mono ?_)
  rintro r H n2 hn2 ⟨rfl, rfl⟩
  (refine zG ?_)
  refine RS.call rfl ((impl_pairs A bA oA _ _ (fun t => (n2 + 1, ⟨64, bys (tns h.p h.m A B t 0), 36⟩) :: (n2, ⟨2, fldC h.p a, 76⟩) :: (n + 2, ⟨64, fun _ => .int .u8 0, 36⟩) :: (n + 1, ⟨1, fun _ => .ptr bB oB, 95⟩) :: (n, ⟨1, fun _ => .ptr b 0, 59⟩) :: H) _ _ (by (try dsimp only); rw [tns_zero]; rfl)
    (fun s hs => ⟨KA, by exact zH, sA, cA⟩) hA (fun s hs hz => by (try dsimp only); rw [tns_skip hz]) (fun t j k n' ht ht' hk hz hn' => ?_)).mono ?_)
  · refine (Hopf_tensor_1 h a A B t j k ht' (by omega) hk b bB oB (n + 1) n n2 (n2 + 1) K KB _ _ _ n' hS (by exact zH) hsz hK hB hA hBb (by exact zH) sB cB (by exact zH) rfl rfl (by exact zH) rfl rfl (by exact zH) (by exact zH) (by omega) (by omega) (by omega) (by omega) (by omega)).mono ?_
    rintro r H' n3 hn3 rfl
    simp (disch := omega) only [Hp.set_eq, Hp.set_ne, Hp.set_set]
  rintro r H' n3 hn3 rfl
  (refine zG ?_)
  exact ⟨.arr 64 (bys (ten h.p h.m A B)), _, conc_arr (fun q hq => by simp only [ten, Nat.zero_add]), by exact zD, rfl, rfl⟩
/-- spec.l03Shape -/
def ir37 : Cd := (.seq (.reg [⟨some 1,none,.box 40 (.t 0)⟩,⟨some 2,none,.mov (.c (.bool false))⟩]) (.seq (.drw true [] [⟨some 5,none,.fa 0 (.t 1)⟩,⟨some 6,none,.ld none (.t 5)⟩,⟨some 7,none,.fa 1 (.t 1)⟩,⟨some 8,none,.ld none (.t 7)⟩,⟨some 3,none,.mov (.t 6)⟩,⟨some 4,none,.mov (.t 8)⟩]) (.seq (.reg [⟨some 9,none,.ld (some 1106) (.t 1)⟩,⟨some 10,none,.call 60 [(.t 9)]⟩,⟨some 11,none,.call 39 [(.t 10)]⟩,⟨some 12,none,.mov (.t 11)⟩,⟨some 13,(some (12,true)),.mov (.t 3)⟩,⟨some 14,(some (12,true)),.mov (.t 4)⟩,⟨some 15,(some (12,true)),.fa 522 (.t 1)⟩,⟨some 16,(some (12,true)),.ld (some 8) (.t 15)⟩,⟨some 17,(some (12,true)),.call 61 [(.t 13),(.t 14),(.t 16)]⟩,⟨some 18,none,.pick (.t 12) (.t 17) (.c (.bool false))⟩,⟨some 19,none,.mov (.t 18)⟩,⟨some 20,(some (19,true)),.mov (.t 3)⟩,⟨some 21,(some (19,true)),.mov (.t 4)⟩,⟨some 22,(some (19,true)),.fa 530 (.t 1)⟩,⟨some 23,(some (19,true)),.ld (some 512) (.t 22)⟩,⟨some 24,(some (19,true)),.call 62 [(.t 20),(.t 21),(.t 23)]⟩,⟨some 25,none,.pick (.t 19) (.t 24) (.c (.bool false))⟩,⟨some 26,none,.mov (.t 25)⟩,⟨some 27,(some (26,true)),.mov (.t 3)⟩,⟨some 28,(some (26,true)),.mov (.t 4)⟩,⟨some 29,(some (26,true)),.fa 1042 (.t 1)⟩,⟨some 30,(some (26,true)),.ld (some 64) (.t 29)⟩,⟨some 31,(some (26,true)),.call 43 [(.t 27),(.t 28),(.t 30)]⟩,⟨some 32,none,.pick (.t 26) (.t 31) (.c (.bool false))⟩,⟨some 2,none,.mov (.t 32)⟩]) .ret)))
set_option maxRecDepth 100000 in
theorem tr37 : trFn Tryz.prog Tryz.f37 = some (33, ir37, [.tmp 2]) := by kernel_rfl
theorem spec_l03Shape (h : HT) (K : Nat → SV) (H : Hp) (n : Nat) (hK : h.At K) (hB : h.By) :
    FnS Tryz.prog 37 [.arr 1106 K] H n (fun r H' _ => r = bl (tb (shH h)) ∧ H' = H) := by
  have hk0 := hK.p
  have hk1 := hK.n
  have hk2 := hK.u
  have hk3 := hK.m
  have hk4 := hK.e
  have hk5 := hK.c
  have hk6 := hK.s
  refine FnS.of_body Tryz.func37 tr37 (by simp) (fun hf => ?_)
  dsimp only [argEnv]
  unfold ir37
  (repeat first|refine zG ?_|(refine LS.nilO ?_;intro nq hnq hltq;try refine zU ?_)|(refine MS.new ?_;intro bq hbq hbqf;try refine zU ?_)|(refine MS.nil ?_;intro nq hnq hltq;have hlq:=hltq _ _ (Hp.get_eq _ _ _);clear hltq;try refine zU ?_)|(refine LS.nilQ ?_;try with_reducible intro nq hnq;try refine zU ?_))
  refine RS.call rfl ((FnS.args (concs_cons (conc_arr (fun q hq => rfl)) rfl) (spec_l03Algebra K h _ _ hK)).mono ?_)
  rintro r H n2 hn2 ⟨rfl, rfl⟩
  (repeat first|refine zG ?_|(refine LS.nilO ?_;intro nq hnq hltq;try refine zU ?_)|(refine MS.new ?_;intro bq hbq hbqf;try refine zU ?_)|(refine MS.nil ?_;intro nq hnq hltq;have hlq:=hltq _ _ (Hp.get_eq _ _ _);clear hltq;try refine zU ?_)|(refine LS.nilQ ?_;try with_reducible intro nq hnq;try refine zU ?_))
  refine RS.call rfl ((spec_l01Shape h.p h.n h.u h.m K _ _ hk0 hk1 hk2 hk3 hB.u hB.m).mono ?_)
  rintro r H n3 hn3 ⟨rfl, rfl⟩
  (refine zG ?_)
  refine RS.sp (t := 12) rfl (fun h1 => ?_) (fun h1 => ?_) <;> (try simp only [tb_eq, tb_eqF, decide_eq_true_eq, decide_eq_false_iff_not, beq_iff_eq, bne_iff_ne, ne_eq, Decidable.not_not, beq_eq_false_iff_ne, bne_eq_false_iff_eq, Bool.not_eq_true', Bool.not_eq_false', Bool.not_eq_eq_eq_not, Bool.not_true, Bool.not_false] at h1)
  · (refine zG ?_)
    refine RS.call rfl ((spec_l01Vector h.p h.n h.e _ _ hB.e).mono ?_)
    rintro r H n4 hn4 ⟨rfl, rfl⟩
    (refine zG ?_)
    refine RS.sp (t := 19) rfl (fun h2 => ?_) (fun h2 => ?_) <;> (try simp only [tb_eq, tb_eqF, decide_eq_true_eq, decide_eq_false_iff_not, beq_iff_eq, bne_iff_ne, ne_eq, Decidable.not_not, beq_eq_false_iff_ne, bne_eq_false_iff_eq, Bool.not_eq_true', Bool.not_eq_false', Bool.not_eq_eq_eq_not, Bool.not_true, Bool.not_false] at h2)
    · (refine zG ?_)
      refine RS.call rfl ((spec_l01Table h.p h.n h.c _ _ hB.c).mono ?_)
      rintro r H n5 hn5 ⟨rfl, rfl⟩
      (refine zG ?_)
      refine RS.sp (t := 26) rfl (fun h3 => ?_) (fun h3 => ?_) <;> (try simp only [tb_eq, tb_eqF, decide_eq_true_eq, decide_eq_false_iff_not, beq_iff_eq, bne_iff_ne, ne_eq, Decidable.not_not, beq_eq_false_iff_ne, bne_eq_false_iff_eq, Bool.not_eq_true', Bool.not_eq_false', Bool.not_eq_eq_eq_not, Bool.not_true, Bool.not_false] at h3)
      · (refine zG ?_)
        refine RS.call rfl ((spec_l01Linear h.p h.n h.s _ _ hB.s).mono ?_)
        rintro r H n6 hn6 ⟨rfl, rfl⟩
        (refine zG ?_)
        exact ⟨_, H, rfl, by exact zD, congrArg bl (tb_iff ⟨fun q => ⟨h1, ⟨h1.1, h2, h3⟩, q⟩, fun q => q.2.2⟩), rfl⟩
      · (refine zG ?_)
        exact ⟨_, H, rfl, by exact zD, by rw [tb_false (fun q => h3 q.2.1.2.2)], rfl⟩
    · (refine zG ?_)
      exact ⟨_, H, rfl, by exact zD, by rw [tb_false (fun q => h2 q.2.1.2.1)], rfl⟩
  · (refine zG ?_)
    exact ⟨_, H, rfl, by exact zD, by rw [tb_false (fun q => h1 q.1)], rfl⟩
end Go.Proofs.YtmkegkpabifpfaaGreat

/- Contracts of the program's functions. -/
namespace Go.Proofs.YtmkegkpabifpfaaGreat
open Go.V
set_option linter.unusedSimpArgs false
set_option linter.unusedVariables false
set_option maxHeartbeats 4000000
/-- spec.l01Is -/
def ir23 : Cd := (.seq (.reg [⟨some 1,none,.box 43 (.t 0)⟩,⟨some 2,none,.mov (.c (.bool false))⟩]) (.seq (.seq (.reg [⟨some 6,none,.ld (some 522) (.t 1)⟩,⟨some 7,none,.call 39 [(.t 6)]⟩,⟨some 8,none,.un .not (.t 7)⟩]) (.cond (.t 8) (.seq (.reg [⟨some 2,none,.mov (.c (.bool false))⟩]) .ret) .skip)) (.seq (.seq (.reg [⟨some 3,none,.mov (.c (.int .i64 0))⟩]) (.block 0 (.loop (.seq (.seq (.reg [⟨some 9,none,.mov (.t 3)⟩,⟨some 10,none,.fa 1 (.t 1)⟩,⟨some 11,none,.ld none (.t 10)⟩,⟨some 12,none,.bin .lss (.t 9) (.t 11)⟩]) (.cond (.t 12) .skip (.exit 0))) (.seq (.block 1 (.seq (.drwo true [17] [0,1,2,3,6,4,5,7,8,9,10,11,13,14,16,12,15,17,18,19] [⟨some 15,none,.ld (some 522) (.t 1)⟩,⟨some 16,none,.fa 2 (.t 1)⟩,⟨some 17,none,.ld (some 8) (.t 16)⟩,⟨some 18,none,.mov (.t 3)⟩,⟨some 19,none,.call 40 [(.t 18)]⟩,⟨some 20,none,.call 27 [(.t 15),(.t 17),(.t 19)]⟩,⟨some 21,none,.mov (.t 3)⟩,⟨some 22,none,.call 40 [(.t 21)]⟩,⟨some 23,none,.eqa true 8 (.t 20) (.t 22)⟩,⟨some 24,none,.mov (.t 23)⟩,⟨some 25,(some (24,false)),.ld (some 522) (.t 1)⟩,⟨some 26,(some (24,false)),.mov (.t 3)⟩,⟨some 27,(some (24,false)),.call 40 [(.t 26)]⟩,⟨some 28,(some (24,false)),.fa 2 (.t 1)⟩,⟨some 29,(some (24,false)),.ld (some 8) (.t 28)⟩,⟨some 30,(some (24,false)),.call 27 [(.t 25),(.t 27),(.t 29)]⟩,⟨some 31,(some (24,false)),.mov (.t 3)⟩,⟨some 32,(some (24,false)),.call 40 [(.t 31)]⟩,⟨some 33,(some (24,false)),.eqa true 8 (.t 30) (.t 32)⟩,⟨some 34,none,.pick (.t 24) (.c (.bool true)) (.t 33)⟩]) (.cond (.t 34) (.seq (.reg [⟨some 2,none,.mov (.c (.bool false))⟩]) .ret) .skip))) (.reg [⟨some 13,none,.mov (.t 3)⟩,⟨some 14,none,.bin .add (.t 13) (.c (.int .i64 1))⟩,⟨some 3,none,.mov (.t 14)⟩])))))) (.seq (.reg [⟨some 36,none,.ld (some 522) (.t 1)⟩,⟨some 37,none,.call 41 [(.t 36)]⟩,⟨some 35,none,.mov (.t 37)⟩,⟨some 38,none,.ex (.t 35) 0⟩,⟨some 39,none,.ex (.t 35) 1⟩,⟨some 4,none,.mov (.t 38)⟩,⟨some 5,none,.mov (.t 39)⟩]) (.seq (.reg [⟨some 40,none,.mov (.t 5)⟩,⟨some 41,none,.un .not (.t 40)⟩,⟨some 2,none,.mov (.t 41)⟩]) .ret)))))
set_option maxRecDepth 100000 in
theorem tr23 : trFn Tryz.prog Tryz.f23 = some (42, ir23, [.tmp 2]) := by kernel_rfl
theorem spec_l01Is (p n' : Int) (u m : Nat → Int) (K : Nat → SV) (H : Hp) (n : Nat) (h0 : K 0 = .int .i64 p) (h1 : K 1 = .int .i64 n')
    (hU : ∀ q, q < 8 → K (2 + q) = .int .u8 (u q)) (hK : ∀ q, q < 512 → K (10 + q) = .int .u8 (m q)) (hu : isBy 8 u) (hm : isBy 512 m) :
    FnS Tryz.prog 23 [.arr 522 K] H n (fun v H' _ => v = bl (tb (isAlg p n' u m)) ∧ H' = H) := by
  refine FnS.of_body Tryz.func23 tr23 (by simp) (fun hf => ?_)
  dsimp only [argEnv]
  unfold ir23
  (refine zG ?_)
  refine RS.call rfl ((FnS.args (concs_cons (conc_arr (fun q hq => rfl)) rfl) (spec_l01Shape p n' u m K _ _ h0 h1 hU hK hu hm)).mono ?_)
  rintro r H n2 hn2 ⟨rfl, rfl⟩
  (refine zG ?_)
  refine zI ?_ ?_<;>intro h2
  · (refine zG ?_)
    exact ⟨_, H, rfl, by exact zD, by rw [tb_false (fun h => h2 h.1)], rfl⟩
  · obtain ⟨hz1, hz2, hz3⟩ := h2.1
    obtain ⟨a, rfl⟩ := Int.eq_ofNat_of_zero_le (show 0 ≤ n' by omega)
    have hp := isP_le hz1
    have ha : a ≤ 8 := by omega
    (refine zG ?_)
    refine CS.iter a (fun i => [(3, i64 i), (1, ptr n 0)]) (fun _ => (n, ⟨522, K, 43⟩) :: H)
      (fun i => ∀ i' : Nat, i' < i → (∀ q, q < 8 → pr p m u (bas i') a q = bas i' q) ∧ (∀ q, q < 8 → pr p m (bas i') u a q = bas i' q)) (by (repeat first | exact trivial | refine And.intro rfl ?_)) (Drops.refl _ _) (fun _ h => by omega) ?_
    intro i n3 hi hn hJ
    (refine zG ?_)
    refine zI ?_ ?_<;>intro h3
    · (refine zG ?_)
      refine CS.quietLo ?_
      (refine zG ?_)
      refine LS.callQ (.arr 8 (bys (bas i))) rfl (fun n' hn' => spec_l01Basis i _ _ (by omega)) ?_
      (repeat first|refine zG ?_|(refine LS.nilO ?_;intro nq hnq hltq;try refine zU ?_)|(refine MS.new ?_;intro bq hbq hbqf;try refine zU ?_)|(refine MS.nil ?_;intro nq hnq hltq;have hlq:=hltq _ _ (Hp.get_eq _ _ _);clear hltq;try refine zU ?_)|(refine LS.nilQ ?_;try with_reducible intro nq hnq;try refine zU ?_))
      refine LS.callQ (.arr 8 (bys (pr p m u (bas i) a))) rfl (fun n' hn' => spec_l01Times p a m u (bas i) _ _ _ hp ha h0 h1 hK hm hu (bas_by _ _)) ?_
      (refine zG ?_)
      refine LS.callQ (.arr 8 (bys (bas i))) rfl (fun n' hn' => spec_l01Basis i _ _ (by omega)) ?_
      (refine zG ?_)
      refine RS.sp (t := 24) rfl (fun h4 => ?_) (fun h4 => ?_) <;> (try simp only [tb_eq, tb_eqF, decide_eq_true_eq, decide_eq_false_iff_not, beq_iff_eq, bne_iff_ne, ne_eq, Decidable.not_not, beq_eq_false_iff_ne, bne_eq_false_iff_eq, Bool.not_eq_true', Bool.not_eq_false', Bool.not_eq_eq_eq_not, Bool.not_true, Bool.not_false] at h4)
      · (repeat first|refine zG ?_|(refine LS.nilO ?_;intro nq hnq hltq;try refine zU ?_)|(refine MS.new ?_;intro bq hbq hbqf;try refine zU ?_)|(refine MS.nil ?_;intro nq hnq hltq;have hlq:=hltq _ _ (Hp.get_eq _ _ _);clear hltq;try refine zU ?_)|(refine LS.nilQ ?_;try with_reducible intro nq hnq;try refine zU ?_))
        exact ⟨_, H, rfl, by exact zD, by rw [tb_false (fun h => h4 (h.2.1 i (by omega)).1)], rfl⟩
      · (refine zG ?_)
        refine LS.callQ (.arr 8 (bys (bas i))) rfl (fun n' hn' => spec_l01Basis i _ _ (by omega)) ?_
        (refine zG ?_)
        refine LS.callQ (.arr 8 (bys (pr p m (bas i) u a))) rfl (fun n' hn' => spec_l01Times p a m (bas i) u _ _ _ hp ha h0 h1 hK hm (bas_by _ _) hu) ?_
        (refine zG ?_)
        refine LS.callQ (.arr 8 (bys (bas i))) rfl (fun n' hn' => spec_l01Basis i _ _ (by omega)) ?_
        (repeat first|refine zG ?_|(refine LS.nilO ?_;intro nq hnq hltq;try refine zU ?_)|(refine MS.new ?_;intro bq hbq hbqf;try refine zU ?_)|(refine MS.nil ?_;intro nq hnq hltq;have hlq:=hltq _ _ (Hp.get_eq _ _ _);clear hltq;try refine zU ?_)|(refine LS.nilQ ?_;try with_reducible intro nq hnq;try refine zU ?_))
        refine zI ?_ ?_<;>intro h5
        · (refine zG ?_)
          exact ⟨_, H, rfl, by exact zD, by rw [tb_false (fun h => h5 (h.2.1 i (by omega)).2)], rfl⟩
        · (refine zG ?_)
          refine ⟨by omega, by (repeat first | exact trivial | refine And.intro rfl ?_), by exact zD, fun i' hi' => ?_⟩
          by_cases e : i' = i
          · subst e; exact ⟨h4, h5⟩
          · exact hJ i' (by omega)
    · have : i = a := by omega
      subst this
      (refine zG ?_)
      refine RS.call rfl ((spec_l01Fault p i m _ _ _ hp ha h0 h1 hK hm).mono ?_)
      rintro r H n4 hn4 ⟨⟨s, rfl⟩, rfl⟩
      (refine zG ?_)
      exact ⟨_, H, rfl, by exact zD, by
        rw [Bool.not_not]
        exact congrArg bl (tb_iff ⟨fun h => isAlg_nat.2 ⟨h2, fun i' h => hJ i' h, h⟩, fun h => h.2.2⟩), rfl⟩
/-- spec.l03Antipode -/
def ir64 : Cd := (.seq (.reg [⟨some 3,none,.box 40 (.t 0)⟩,⟨some 4,none,.box 36 (.t 1)⟩,⟨some 6,none,.mov (.c (.bool false))⟩]) (.seq (.seq (.reg [⟨some 7,none,.mov (.c (.int .i64 0))⟩]) (.block 0 (.loop (.seq (.seq (.reg [⟨some 8,none,.mov (.t 7)⟩,⟨some 9,none,.fa 1 (.t 3)⟩,⟨some 10,none,.ld none (.t 9)⟩,⟨some 11,none,.bin .lss (.t 8) (.t 10)⟩]) (.cond (.t 11) .skip (.exit 0))) (.seq (.block 1 (.seq (.drw true [15] [⟨some 14,none,.ld (some 1106) (.t 3)⟩,⟨some 15,none,.mov (.t 7)⟩,⟨some 16,none,.ld (some 64) (.t 4)⟩,⟨some 17,none,.mov (.t 2)⟩,⟨some 18,none,.call 85 [(.t 14),(.t 15),(.t 16),(.t 17)]⟩,⟨some 19,none,.fa 0 (.t 3)⟩,⟨some 20,none,.ld none (.t 19)⟩,⟨some 21,none,.build 8 [(8,(.int .u8 0))] []⟩,⟨some 22,none,.fa 2 (.t 3)⟩,⟨some 23,none,.ld (some 8) (.t 22)⟩,⟨some 24,none,.mov (.t 7)⟩,⟨some 25,none,.fa 522 (.t 3)⟩,⟨some 26,none,.ia 8 1 (.t 25) (.t 24)⟩,⟨some 27,none,.ld none (.t 26)⟩,⟨some 28,none,.cv .i64 (.t 27)⟩,⟨some 29,none,.call 26 [(.t 20),(.t 21),(.t 23),(.t 28)]⟩,⟨some 30,none,.eqa true 8 (.t 18) (.t 29)⟩]) (.cond (.t 30) (.seq (.reg [⟨some 6,none,.mov (.c (.bool false))⟩]) .ret) .skip))) (.reg [⟨some 12,none,.mov (.t 7)⟩,⟨some 13,none,.bin .add (.t 12) (.c (.int .i64 1))⟩,⟨some 7,none,.mov (.t 13)⟩])))))) (.seq (.reg [⟨some 6,none,.mov (.c (.bool true))⟩]) .ret)))
set_option maxRecDepth 100000 in
theorem tr64 : trFn Tryz.prog Tryz.f64 = some (31, ir64, [.tmp 6]) := by kernel_rfl
theorem spec_l03Antipode (h : HT) (a : Nat) (bh : Bool) (g : Nat → Nat → Int) (hg : g = if bh = true then g7 h.p h.m h.s a else g6 h.p h.m h.s a) (K : Nat → SV) (H : Hp) (n : Nat) (hS : HS h a) (hK : h.At K) (hB : h.By) :
    FnS Tryz.prog 64 [.arr 1106 K, .arr 64 (bys h.s), bl bh] H n (fun r H' _ => r = bl (tb (∀ i : Nat, i < a → ∀ q, q < 8 → fold h.p h.c i g 64 q = pl h.p (fun _ => 0) (h.e i) h.u q)) ∧ H' = H) := by
  have hp := hS.hp
  have ha := hS.ha
  have hk0 := hK.p
  have hk1 := hK.n
  rw [hS.hn] at hk1
  have hk5 := hK.e
  have hk6 := hK.u
  refine FnS.of_body Tryz.func64 tr64 (by simp) (fun hf => ?_)
  dsimp only [argEnv]
  unfold ir64
  (refine zG ?_)
  refine CS.iter a (fun i => [(7, i64 i), (3, ptr n 0), (4, ptr (n + 1) 0), (2, bl bh)]) (fun _ => (n + 1, ⟨64, bys h.s, 36⟩) :: (n, ⟨1106, K, 40⟩) :: H)
    (fun i => ∀ i' : Nat, i' < i → ∀ q, q < 8 → fold h.p h.c i' g 64 q = pl h.p (fun _ => 0) (h.e i') h.u q) (by (repeat first | exact trivial | refine And.intro rfl ?_)) (by exact zD) (fun _ h => by omega) ?_
  intro i n1 hi hn hJ
  (refine zG ?_)
  refine zI ?_ ?_<;>intro h2
  · have hei := hB.e i (by omega)
    (refine zG ?_)
    refine LS.callQ (.arr 8 (bys (fold h.p h.c i g 64))) rfl (fun n' hn' => spec_l03Folded h a i bh g hg (by omega) K _ _ hS hK hB) ?_
    (repeat first|refine zG ?_|(refine LS.nilO ?_;intro nq hnq hltq;try refine zU ?_)|(refine MS.new ?_;intro bq hbq hbqf;try refine zU ?_)|(refine MS.nil ?_;intro nq hnq hltq;have hlq:=hltq _ _ (Hp.get_eq _ _ _);clear hltq;try refine zU ?_)|(refine LS.nilQ ?_;try with_reducible intro nq hnq;try refine zU ?_))
    refine RS.call rfl ((spec_l01Add h.p (h.e i) (fun _ => 0) h.u _ _ hp ((isRes_zero hp.1 8).by hp.2) hB.u (by omega)).mono ?_)
    rintro r H4 n3 hn3 ⟨rfl, rfl⟩
    (refine zG ?_)
    refine zI ?_ ?_<;>intro h4
    · (refine zG ?_)
      exact ⟨_, H, rfl, by exact zD, by rw [tb_false (fun q => h4 (q i (by omega)))], rfl⟩
    · (refine zG ?_)
      refine ⟨by omega, by (repeat first | exact trivial | refine And.intro rfl ?_), by exact zD, fun j' hj' => ?_⟩
      by_cases e : j' = i
      · subst e; exact h4
      · exact hJ j' (by omega)
  · have : i = a := by omega
    subst this
    (refine zG ?_)
    exact ⟨_, H, rfl, by exact zD, by rw [tb_true hJ], rfl⟩
end Go.Proofs.YtmkegkpabifpfaaGreat
