/- Contracts of the program's functions. -/
import Derived.Test.YtideblodkkgodaaGreatJam
import Derived.Test.YtideblodkkgodaaGreatJal
import Derived.Test.YtideblodkkgodaaGreatJay
import Derived.Test.YtideblodkkgodaaGreatJaz
set_option linter.unusedSectionVars false
set_option linter.unusedVariables false
set_option linter.unusedSimpArgs false

namespace Go.Proofs.YtideblodkkgodaaGreat

open Go.V

variable [BW]

set_option linter.unusedSimpArgs false

set_option linter.unusedVariables false

set_option maxHeartbeats 4000000

/-- spec.l02Is -/
def ir110 : Cd := (.seq (.reg [⟨some 1,none,.box 122 (.t 0)⟩,⟨some 2,none,.mov (.c (.bool false))⟩]) (.seq (.seq (.reg [⟨some 5,none,.ld (some 522) (.t 1)⟩,⟨some 6,none,.call 133 [(.t 5)]⟩,⟨some 7,none,.un .not (.t 6)⟩]) (.cond (.t 7) (.seq (.reg [⟨some 2,none,.mov (.c (.bool false))⟩]) .ret) .skip)) (.seq (.reg [⟨some 9,none,.ld (some 522) (.t 1)⟩,⟨some 10,none,.call 134 [(.t 9)]⟩,⟨some 8,none,.mov (.t 10)⟩,⟨some 11,none,.ex (.t 8) 0⟩,⟨some 12,none,.ex (.t 8) 1⟩,⟨some 3,none,.mov (.t 11)⟩,⟨some 4,none,.mov (.t 12)⟩]) (.seq (.reg [⟨some 13,none,.mov (.t 4)⟩,⟨some 14,none,.un .not (.t 13)⟩,⟨some 15,none,.mov (.t 14)⟩,⟨some 16,(some (15,true)),.ld (some 522) (.t 1)⟩,⟨some 17,(some (15,true)),.call 135 [(.t 16)]⟩,⟨some 18,none,.pick (.t 15) (.t 17) (.c (.bool false))⟩,⟨some 2,none,.mov (.t 18)⟩]) .ret))))

set_option maxRecDepth 100000 in
theorem tr110 : trFn Tryz.prog Tryz.f110 = some (19, ir110, [.tmp 2]) := by kernel_rfl

theorem spec_l02Is (p n' : Int) (u m : Nat → Int) (K : Nat → SV) (H : Hp) (n : Nat) (h0 : K 0 = .int .i64 p) (h1 : K 1 = .int .i64 n')
    (hU : ∀ q, q < 8 → K (2 + q) = .int .u8 (u q)) (hK : ∀ q, q < 512 → K (10 + q) = .int .u8 (m q)) (hu : isBy 8 u) (hm : isBy 512 m) :
    FnS Tryz.prog 110 [.arr 522 K] H n (fun v H' _ => v = bl (tb (isCoalg p n' u m)) ∧ H' = H) := by
  refine FnS.of_body Tryz.func110 tr110 (by simp) (fun hf => ?_)
  dsimp only [argEnv]
  unfold ir110
  (refine zG ?_)
  refine RS.call rfl ((FnS.args (concs_cons (conc_arr (fun q hq => rfl)) rfl) (spec_l02Shape p n' u m K _ _ h0 h1 hU hK hu hm)).mono ?_)
  rintro r H n2 hn2 ⟨rfl, rfl⟩
  (refine zG ?_)
  refine zI ?_ ?_<;>intro h2
  · (refine zG ?_)
    exact ⟨_, H, rfl, by exact zD, by rw [tb_false (fun h => h2 h.1)], rfl⟩
  · obtain ⟨hz1, hz2, hz3⟩ := h2.1
    obtain ⟨a, rfl⟩ := Int.eq_ofNat_of_zero_le (show 0 ≤ n' by omega)
    have hp := isP_le hz1
    have ha : a ≤ 8 := by omega
    (refine zG ?_)
    refine RS.call rfl ((FnS.args (concs_cons (conc_arr (fun q hq => rfl)) rfl) (spec_l02Fault p a m K _ _ hp (by omega) ha h0 h1 hK hm)).mono ?_)
    rintro r H n3 hn3 ⟨⟨s, rfl⟩, rfl⟩
    (refine zG ?_)
    refine RS.sp (t := 15) rfl (fun h3 => ?_) (fun h3 => ?_) <;> (try simp only [tb_eq, tb_eqF, decide_eq_true_eq, decide_eq_false_iff_not, beq_iff_eq, bne_iff_ne, ne_eq, Decidable.not_not, beq_eq_false_iff_ne, bne_eq_false_iff_eq, Bool.not_eq_true', Bool.not_eq_false', Bool.not_eq_eq_eq_not, Bool.not_true, Bool.not_false] at h3)
    · (refine zG ?_)
      refine RS.call rfl ((FnS.args (concs_cons (conc_arr (fun q hq => rfl)) rfl) (spec_l02Counits p a u m K _ _ hp ha h0 h1 hU hK hu hm h2.2.1.vz)).mono ?_)
      rintro r H n4 hn4 ⟨rfl, rfl⟩
      (refine zG ?_)
      exact ⟨_, H, rfl, by exact zD, congrArg bl (tb_iff ⟨fun h => isCoalg_nat.2 ⟨h2, h, h3⟩, fun h => h.2.1⟩), rfl⟩
    · (refine zG ?_)
      exact ⟨_, H, rfl, by exact zD, by rw [tb_false (fun h => h3 h.2.2)], rfl⟩

/-- spec.l03Pairs -/
def ir112 : Cd := (.seq (.reg [⟨some 3,none,.box 38 (.t 0)⟩,⟨some 4,none,.box 34 (.t 1)⟩,⟨some 5,none,.box 34 (.t 2)⟩,⟨some 6,none,.new 34 [(64,(.int .u8 0))]⟩]) (.seq (.mix [⟨some 15,none,.fa 0 (.t 3)⟩,⟨some 16,none,.ld none (.t 15)⟩,⟨some 17,none,.fa 1 (.t 3)⟩,⟨some 18,none,.ld none (.t 17)⟩,⟨some 19,none,.build 64 [(64,(.int .u8 0))] []⟩] [⟨some 9,none,.new 34 [(64,(.int .u8 0))]⟩,⟨some 7,none,.mov (.t 16)⟩,⟨some 8,none,.mov (.t 18)⟩,⟨none,none,.st 64 (.t 9) (.t 19)⟩]) (.seq (.seq (.reg [⟨some 10,none,.mov (.c (.int .i64 0))⟩]) (.block 0 (.loop (.seq (.seq (.reg [⟨some 20,none,.mov (.t 10)⟩,⟨some 21,none,.mov (.t 8)⟩,⟨some 22,none,.bin .lss (.t 20) (.t 21)⟩]) (.cond (.t 22) .skip (.exit 0))) (.seq (.block 1 (.seq (.reg [⟨some 11,none,.mov (.c (.int .i64 0))⟩]) (.block 2 (.loop (.seq (.seq (.reg [⟨some 25,none,.mov (.t 11)⟩,⟨some 26,none,.mov (.t 8)⟩,⟨some 27,none,.bin .lss (.t 25) (.t 26)⟩]) (.cond (.t 27) .skip (.exit 2))) (.seq (.block 3 (.seq (.mix [⟨some 30,none,.ld (some 1106) (.t 3)⟩,⟨some 31,none,.call 20 [(.t 30)]⟩,⟨some 32,none,.mov (.t 10)⟩,⟨some 33,none,.ia 8 8 (.t 4) (.t 32)⟩,⟨some 34,none,.ld (some 8) (.t 33)⟩,⟨some 35,none,.mov (.t 11)⟩,⟨some 36,none,.ia 8 8 (.t 5) (.t 35)⟩,⟨some 37,none,.ld (some 8) (.t 36)⟩,⟨some 38,none,.call 19 [(.t 31),(.t 34),(.t 37)]⟩] [⟨some 12,none,.new 32 [(8,(.int .u8 0))]⟩,⟨none,none,.st 8 (.t 12) (.t 38)⟩]) (.seq (.seq (.reg [⟨some 39,none,.ld (some 8) (.t 12)⟩,⟨some 40,none,.call 43 [(.t 39)]⟩]) (.cond (.t 40) (.exit 3) .skip)) (.seq (.reg [⟨some 13,none,.mov (.c (.int .i64 0))⟩]) (.block 4 (.loop (.seq (.seq (.reg [⟨some 41,none,.mov (.t 13)⟩,⟨some 42,none,.mov (.t 8)⟩,⟨some 43,none,.bin .lss (.t 41) (.t 42)⟩]) (.cond (.t 43) .skip (.exit 4))) (.seq (.block 5 (.seq (.reg [⟨some 46,none,.mov (.t 10)⟩,⟨some 47,none,.mov (.t 11)⟩,⟨some 48,none,.mov (.t 13)⟩,⟨some 49,none,.fa 10 (.t 3)⟩,⟨some 50,none,.ia 8 64 (.t 49) (.t 46)⟩,⟨some 51,none,.ia 8 8 (.t 50) (.t 47)⟩,⟨some 52,none,.ia 8 1 (.t 51) (.t 48)⟩,⟨some 53,none,.ld none (.t 52)⟩,⟨some 14,none,.mov (.t 53)⟩]) (.seq (.reg [⟨some 54,none,.mov (.t 14)⟩,⟨some 55,none,.bin .neq (.t 54) (.c (.int .u8 0))⟩]) (.cond (.t 55) (.drw true [10] [⟨some 56,none,.mov (.t 13)⟩,⟨some 57,none,.mov (.t 7)⟩,⟨some 58,none,.mov (.t 13)⟩,⟨some 59,none,.ia 8 8 (.t 9) (.t 58)⟩,⟨some 60,none,.ld (some 8) (.t 59)⟩,⟨some 61,none,.ld (some 8) (.t 12)⟩,⟨some 62,none,.mov (.t 14)⟩,⟨some 63,none,.cv .i64 (.t 62)⟩,⟨some 64,none,.call 42 [(.t 57),(.t 60),(.t 61),(.t 63)]⟩,⟨some 65,none,.ia 8 8 (.t 9) (.t 56)⟩,⟨none,none,.st 8 (.t 65) (.t 64)⟩]) .skip)))) (.reg [⟨some 44,none,.mov (.t 13)⟩,⟨some 45,none,.bin .add (.t 44) (.c (.int .i64 1))⟩,⟨some 13,none,.mov (.t 45)⟩]))))))))) (.reg [⟨some 28,none,.mov (.t 11)⟩,⟨some 29,none,.bin .add (.t 28) (.c (.int .i64 1))⟩,⟨some 11,none,.mov (.t 29)⟩]))))))) (.reg [⟨some 23,none,.mov (.t 10)⟩,⟨some 24,none,.bin .add (.t 23) (.c (.int .i64 1))⟩,⟨some 10,none,.mov (.t 24)⟩])))))) (.seq (.reg [⟨some 66,none,.ld (some 64) (.t 9)⟩,⟨none,none,.st 64 (.t 6) (.t 66)⟩]) .ret))))

set_option maxRecDepth 100000 in
theorem tr112 : trFn Tryz.prog Tryz.f112 = some (67, ir112, [.cell (some 64) 6]) := by kernel_rfl

theorem spec_l03Pairs (h : HT) (a : Nat) (f g : Nat → Int) (K : Nat → SV) (H : Hp) (n : Nat) (hS : HS h a) (hK : h.At K) (hB : h.By) (hA : isBy 64 f) (hG : isBy 64 g) :
    FnS Tryz.prog 112 [.arr 1106 K, .arr 64 (bys f), .arr 64 (bys g)] H n (fun r H' _ => r = .arr 64 (bys (ten h.p h.m f g)) ∧ H' = H) := by
  have hp := hS.hp
  have ha := hS.ha
  have hk0 := hK.p
  have hk1 := hK.n
  rw [hS.hn] at hk1
  have hk5 := hK.m
  refine FnS.of_body Tryz.func112 tr112 (by simp) (fun hf => ?_)
  dsimp only [argEnv]
  unfold ir112
  (repeat first|refine zG ?_|(refine LS.nilO ?_;intro nq hnq hltq;try refine zU ?_)|(refine MS.new ?_;intro bq hbq hbqf;try refine zU ?_)|(refine MS.nil ?_;intro nq hnq hltq;have hlq:=hltq _ _ (Hp.get_eq _ _ _);clear hltq;try refine zU ?_)|(refine LS.nilQ ?_;try with_reducible intro nq hnq;try refine zU ?_))
  revert bq
  intro b1 hb1 hb1f hl1
  refine CS.iter a (fun j => [(10, i64 j), (3, ptr n 0), (4, ptr (n + 1) 0), (5, ptr (n + 2) 0), (6, ptr (n + 3) 0), (7, i64 h.p), (8, i64 a), (9, ptr b1 0)])
    (fun j => (b1, ⟨64, bys (tsr h.p h.m f g a j 0), 34⟩) :: (n + 3, ⟨64, bys (fun _ => 0), 34⟩) :: (n + 2, ⟨64, bys g, 34⟩) :: (n + 1, ⟨64, bys f, 34⟩) :: (n, ⟨1106, K, 38⟩) :: H) (fun _ => True) (by (repeat first | exact trivial | refine And.intro rfl ?_))
    (Drops.keepc rfl rfl (fun _ _ => by rw [tsr_zero]; rfl) (Drops.keepc rfl rfl (fun _ _ => rfl) (Drops.refl _ _))) trivial ?_
  intro j n3 hj hn _
  (refine zG ?_)
  refine zI ?_ ?_<;>intro h2
  · (refine zG ?_)
    refine CS.iter a (fun l => [(11, i64 l), (10, i64 j), (3, ptr n 0), (4, ptr (n + 1) 0), (5, ptr (n + 2) 0), (6, ptr (n + 3) 0), (7, i64 h.p), (8, i64 a), (9, ptr b1 0)])
      (fun l => (b1, ⟨64, bys (tsr h.p h.m f g a j l), 34⟩) :: (n + 3, ⟨64, bys (fun _ => 0), 34⟩) :: (n + 2, ⟨64, bys g, 34⟩) :: (n + 1, ⟨64, bys f, 34⟩) :: (n, ⟨1106, K, 38⟩) :: H) (fun _ => True) (by (repeat first | exact trivial | refine And.intro rfl ?_))
      (Drops.refl _ _) trivial ?_
    intro l n4 hl hn4 _
    (refine zG ?_)
    refine zI ?_ ?_<;>intro h3
    · (refine zG ?_)
      refine LS.callQ (.arr 522 K) rfl (fun n' hn' => FnS.args (concs_cons (conc_arr (fun q hq => rfl)) rfl) (spec_l03Algebra K h _ _ hK)) ?_
      (refine zG ?_)
      refine LS.callQ (.arr 8 (bys (pr h.p h.m (fun x => f (8 * j + x)) (fun x => g (8 * l + x)) a))) rfl (fun n' hn' => spec_l01Times h.p a h.m (fun x => f (8 * j + x)) (fun x => g (8 * l + x)) K _ _ hp ha hk0 hk1 hk5 hB.m (fun x hx => hA _ (by omega)) (fun x hx => hG _ (by omega))) ?_
      have hpr := pr_res hp.1 h.m (fun x => f (8 * j + x)) (fun x => g (8 * l + x)) a 8
      (repeat first|refine zG ?_|(refine LS.nilO ?_;intro nq hnq hltq;try refine zU ?_)|(refine MS.new ?_;intro bq hbq hbqf;try refine zU ?_)|(refine MS.nil ?_;intro nq hnq hltq;have hlq:=hltq _ _ (Hp.get_eq _ _ _);clear hltq;try refine zU ?_)|(refine LS.nilQ ?_;try with_reducible intro nq hnq;try refine zU ?_))
      refine RS.call rfl ((spec_l01Zero (pr h.p h.m (fun x => f (8 * j + x)) (fun x => g (8 * l + x)) a) _ _).mono ?_)
      rintro r H n5 hn5 ⟨rfl, rfl⟩
      (refine zG ?_)
      refine zI ?_ ?_<;>intro h4
      · (refine zG ?_)
        exact ⟨by omega, by (repeat first | exact trivial | refine And.intro rfl ?_), Drops.drop (by omega) (by simp (disch := omega) only [Hp.get_ne]; exact hf _ (by omega)) (Drops.keepc rfl rfl (fun q hq => by simp only [bys]; rw [tsr_same (twr_zero h4 q)]) (Drops.refl _ _)), trivial⟩
      · (refine zG ?_)
        refine CS.iter a (fun x => [(13, i64 x), (12, ptr bq 0), (11, i64 l), (10, i64 j), (3, ptr n 0), (4, ptr (n + 1) 0), (5, ptr (n + 2) 0), (6, ptr (n + 3) 0), (7, i64 h.p), (8, i64 a), (9, ptr b1 0)])
          (fun x => (bq, ⟨8, bys (pr h.p h.m (fun x => f (8 * j + x)) (fun x => g (8 * l + x)) a), 32⟩) :: (b1, ⟨64, bys (rowsTo (tsr h.p h.m f g a j l) (tsr h.p h.m f g a j (l + 1)) x), 34⟩) :: (n + 3, ⟨64, bys (fun _ => 0), 34⟩) :: (n + 2, ⟨64, bys g, 34⟩) :: (n + 1, ⟨64, bys f, 34⟩) :: (n, ⟨1106, K, 38⟩) :: H) (fun _ => True) (by (repeat first | exact trivial | refine And.intro rfl ?_))
          (Drops.keepc rfl rfl (fun _ _ => rfl) (Drops.keepc rfl rfl (fun _ _ => by rw [rowsTo_zero]) (Drops.refl _ _))) trivial ?_
        intro x n6 hx hn6 _
        (refine zG ?_)
        refine zI ?_ ?_<;>intro h5
        · have hmx := hB.m (64 * j + 8 * l + x) (by omega)
          (refine zG ?_)
          refine zI ?_ ?_<;>intro h6
          · have hr : ∀ q, q < 8 → (bys (rowsTo (tsr h.p h.m f g a j l) (tsr h.p h.m f g a j (l + 1)) x)) (8 * x + q) = .int .u8 (tsr h.p h.m f g a j l (8 * x + q)) := fun y hy => by simp only [bys, rowsTo]; rw [if_neg (by omega)]
            (refine zG ?_)
            refine LS.callQ (.arr 8 (bys (pl h.p (fun y => tsr h.p h.m f g a j l (8 * x + y)) (h.m (64 * j + 8 * l + x)) (pr h.p h.m (fun x => f (8 * j + x)) (fun x => g (8 * l + x)) a)))) rfl (fun n' hn' => spec_l01Add h.p (h.m (64 * j + 8 * l + x)) (fun y => tsr h.p h.m f g a j l (8 * x + y)) (pr h.p h.m (fun x => f (8 * j + x)) (fun x => g (8 * l + x)) a) _ _ hp (fun y hy => (tsr_res hp.1 h.m f g a j l 64).by hp.2 _ (by omega)) (hpr.by hp.2) (by omega)) ?_
            (repeat first|refine zG ?_|(refine LS.nilO ?_;intro nq hnq hltq;try refine zU ?_)|(refine MS.new ?_;intro bq hbq hbqf;try refine zU ?_)|(refine MS.nil ?_;intro nq hnq hltq;have hlq:=hltq _ _ (Hp.get_eq _ _ _);clear hltq;try refine zU ?_)|(refine LS.nilQ ?_;try with_reducible intro nq hnq;try refine zU ?_))
            exact ⟨by omega, by (repeat first | exact trivial | refine And.intro rfl ?_), Drops.keepc rfl rfl (fun _ _ => rfl) (Drops.keepc rfl rfl (fun q hq => rowsTo_step (fun y hy => tsr_row _ _ _ _ _ _ _ _ _ hy) q) (Drops.refl _ _)), trivial⟩
          · (refine zG ?_)
            exact ⟨by omega, by (repeat first | exact trivial | refine And.intro rfl ?_), Drops.keepc rfl rfl (fun _ _ => rfl) (Drops.keepc rfl rfl (fun q hq => by
              simp only [bys]; rw [rowsTo_keep (fun y hy => (tsr_same (by unfold twr; rw [show (8 * x + y) / 8 = x by omega, h6, Int.zero_mul])).symm)]) (Drops.refl _ _)), trivial⟩
        · have : x = a := by omega
          subst this
          (refine zG ?_)
          exact ⟨by omega, by (repeat first | exact trivial | refine And.intro rfl ?_), Drops.drop (by omega) (by simp (disch := omega) only [Hp.get_ne]; exact hf _ (by omega)) (Drops.keepc rfl rfl (fun q hq => by simp only [bys]; rw [rowsTo_all (fun q h1 h2 => tsr_out hS.mm (by omega) (by omega) h1 h2) hq]) (Drops.refl _ _)), trivial⟩
    · have : l = a := by omega
      subst this
      (refine zG ?_)
      exact ⟨by omega, by (repeat first | exact trivial | refine And.intro rfl ?_), by rw [tsr_next]; exact Drops.refl _ _, trivial⟩
  · have : j = a := by omega
    subst this
    (refine zG ?_)
    exact ⟨.arr 64 (bys (ten h.p h.m f g)), H, conc_arr (fun q hq => by simp only [Nat.zero_add, bys]; rw [tsr_end hS.mm ha hq]), by exact zD, rfl, rfl⟩

/-- (*impl.Hopf).axiom4 -/
def ir91 : Cd := (.seq (.reg [⟨some 2,none,.mov (.c (.bool false))⟩]) (.seq (.drwo true [16] [0,1,2,3,4,6,8,9,10,11,12,13,14,15,5,7,16,17,18] [⟨some 3,none,.mov (.t 0)⟩,⟨some 4,none,.mov (.t 0)⟩,⟨some 5,none,.ck (.t 4)⟩,⟨some 6,none,.fa 2 (.t 5)⟩,⟨some 7,none,.ld (some 8) (.t 6)⟩,⟨some 8,none,.call 72 [(.t 3),(.t 7)]⟩,⟨some 9,none,.mov (.t 0)⟩,⟨some 10,none,.call 28 [(.t 9)]⟩,⟨some 11,none,.mov (.t 0)⟩,⟨some 12,none,.ck (.t 11)⟩,⟨some 13,none,.fa 2 (.t 12)⟩,⟨some 14,none,.ld (some 8) (.t 13)⟩,⟨some 15,none,.mov (.t 0)⟩,⟨some 16,none,.ck (.t 15)⟩,⟨some 17,none,.fa 2 (.t 16)⟩,⟨some 18,none,.ld (some 8) (.t 17)⟩,⟨some 19,none,.call 122 [(.t 10),(.t 14),(.t 18)]⟩,⟨some 20,none,.eqa false 64 (.t 8) (.t 19)⟩,⟨some 2,none,.mov (.t 20)⟩]) .ret))

set_option maxRecDepth 100000 in
theorem tr91 : trFn Tryz.prog Tryz.f91 = some (21, ir91, [.tmp 2]) := by kernel_rfl

theorem Hopf_axiom4 (h : HT) (a : Nat) (b : Nat) (K : Blk) (H : Hp) (n : Nat) (hS : HS h a) (hb : H.get b = some K) (hsz : K.size = 1106) (hK : h.At K.c) (hB : h.By) :
    FnS Tryz.prog 91 [ptr b 0] H n (fun r H' _ => r = bl (tb (ax4 h)) ∧ H' = H) := by
  have hp := hS.hp
  have ha := hS.ha
  have hk1 := hK.n
  rw [hS.hn] at hk1
  have hk5 := hK.u
  refine FnS.of_body Tryz.func91 tr91 (by simp) (fun hf => ?_)
  dsimp only [argEnv]
  unfold ir91
  have hbn := getlt hf hb
  (refine zG ?_)
  refine CS.quietLo ?_
  (refine zG ?_)
  refine LS.callQ (.arr 64 (bys (cps h.p h.c h.u 8))) rfl (fun n' hn' => Hopf_coproduct h a h.u b K _ _ hS (by exact zH) hsz hK hB hB.u) ?_
  (refine zG ?_)
  refine LS.callQ (fld h.p a) rfl (fun n' hn' => Hopf_field h.p a b K _ _ (by exact zH) hsz hK.p hk1 (by omega)) ?_
  (refine zG ?_)
  refine LS.callQ (.arr 64 (bys (outer h.p h.u h.u))) rfl (fun n' hn' => field_pair h.p a h.u h.u _ _ hp hB.u hB.u) ?_
  (repeat first|refine zG ?_|(refine LS.nilO ?_;intro nq hnq hltq;try refine zU ?_)|(refine MS.new ?_;intro bq hbq hbqf;try refine zU ?_)|(refine MS.nil ?_;intro nq hnq hltq;have hlq:=hltq _ _ (Hp.get_eq _ _ _);clear hltq;try refine zU ?_)|(refine LS.nilQ ?_;try with_reducible intro nq hnq;try refine zU ?_))
  exact ⟨_, H, rfl, by exact zD, rfl, rfl⟩

/-- (*impl.Hopf).folded -/
def ir123 : Cd := (.seq (.reg [⟨some 3,none,.box 81 (.t 0)⟩,⟨some 5,none,.box 4 (.t 2)⟩,⟨some 6,none,.new 32 [(8,(.int .u8 0))]⟩]) (.seq (.reg [⟨some 9,none,.ld none (.t 3)⟩,⟨some 10,none,.call 28 [(.t 9)]⟩,⟨some 11,none,.build 8 [(8,(.int .u8 0))] []⟩,⟨some 7,none,.new 62 [(2,(.int .i64 0))]⟩,⟨some 8,none,.new 32 [(8,(.int .u8 0))]⟩,⟨none,none,.st 2 (.t 7) (.t 10)⟩,⟨none,none,.st 8 (.t 8) (.t 11)⟩]) (.seq (.reg [⟨some 12,none,.ld none (.t 3)⟩,⟨some 13,none,.mov (.t 1)⟩,⟨some 14,none,.ck (.t 12)⟩,⟨some 15,none,.fa 530 (.t 14)⟩,⟨some 16,none,.ia 8 64 (.t 15) (.t 13)⟩,⟨some 17,none,.mkf 141 [] [(.t 5),(.t 7),(.t 8),(.t 3)]⟩,⟨some 18,none,.call 73 [(.t 16),(.t 17)]⟩]) (.seq (.reg [⟨some 19,none,.ld (some 8) (.t 8)⟩,⟨none,none,.st 8 (.t 6) (.t 19)⟩]) .ret))))

set_option maxRecDepth 100000 in
theorem tr123 : trFn Tryz.prog Tryz.f123 = some (20, ir123, [.cell (some 8) 6]) := by kernel_rfl

theorem Hopf_folded (h : HT) (a : Nat) (i : Nat) (fp : Bool) (g : Nat → Nat → Int) (hg : g = if fp = true then g6 h.p h.m h.s a else g7 h.p h.m h.s a) (hi : i < 8)
    (b : Nat) (K : Blk) (H : Hp) (n : Nat) (hS : HS h a) (hb : H.get b = some K) (hsz : K.size = 1106) (hK : h.At K.c) (hB : h.By) :
    FnS Tryz.prog 123 [ptr b 0, i64 i, bl fp] H n (fun r H' _ => r = .arr 8 (bys (fold h.p h.c i g 64)) ∧ H' = H) := by
  have hp := hS.hp
  have ha := hS.ha
  have hk1 := hK.n
  rw [hS.hn] at hk1
  have hk6 := hK.c
  refine FnS.of_body Tryz.func123 tr123 (by simp) (fun hf => ?_)
  dsimp only [argEnv]
  unfold ir123
  have hbn := getlt hf hb
  (refine zG ?_)
  refine RS.call rfl ((Hopf_field h.p a b K _ _ (by exact zH) hsz hK.p hk1 (by omega)).mono ?_)
  rintro r H n2 hn2 ⟨rfl, rfl⟩
  (refine zG ?_)
  refine RS.call rfl ((impl_pairs (fun q => h.c (64 * i + q)) b (530 + 64 * i) _ _ (fun t => (n2 + 1, ⟨8, bys (fold h.p h.c i g t), 32⟩) :: (n2, ⟨2, fldC h.p a, 62⟩) :: (n + 2, ⟨8, fun _ => .int .u8 0, 32⟩) :: (n + 1, ⟨1, fun _ => .bool fp, 4⟩) :: (n, ⟨1, fun _ => .ptr b 0, 81⟩) :: H) _ _ (by (try dsimp only); rw [fold_zero]; rfl)
    (fun s hs => ⟨K, by exact zH, by omega, fun q hq => by rw [Nat.add_assoc]; exact hk6 _ (by omega)⟩) (hB.rowc hi) (fun s hs hz => by (try dsimp only); rw [fold_skip hz]) (fun t j k n' ht ht' hk hz hn' => ?_)).mono ?_)
  · refine (Hopf_folded_1 h a i t j k fp g hg hi ht' (by omega) hk b (n + 1) n2 (n2 + 1) n K _ _ _ n' hS (by exact zH) hsz hK hB (by exact zH) rfl rfl (by exact zH) (by exact zH) (by exact zH) rfl rfl).mono ?_
    rintro r H' n3 hn3 rfl
    simp (disch := omega) only [Hp.set_eq, Hp.set_ne, Hp.set_set]
  rintro r H' n3 hn3 rfl
  (refine zG ?_)
  exact ⟨.arr 8 (bys (fold h.p h.c i g 64)), _, conc_arr (fun q hq => by simp only [Nat.zero_add]), by exact zD, rfl, rfl⟩

end Go.Proofs.YtideblodkkgodaaGreat
