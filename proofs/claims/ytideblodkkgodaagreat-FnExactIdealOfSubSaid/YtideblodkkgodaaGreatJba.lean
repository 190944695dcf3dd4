/- Contracts of the program's functions. -/
import Derived.Test.YtideblodkkgodaaGreatJam
import Derived.Test.YtideblodkkgodaaGreatJal
import Derived.Test.YtideblodkkgodaaGreatJaz
set_option linter.unusedSectionVars false
set_option linter.unusedVariables false
set_option linter.unusedSimpArgs false

namespace Go.Proofs.YtideblodkkgodaaGreat

open Go.V

variable [BW]

set_option linter.unusedSimpArgs false

set_option linter.unusedVariables false

set_option maxHeartbeats 4000000

/-- (*impl.Algebra).isShaped -/
def ir82 : Cd := (.seq (.reg [⟨some 2,none,.mov (.c (.bool false))⟩]) (.seq (.drw true [25] [⟨some 3,none,.mov (.t 0)⟩,⟨some 4,none,.ck (.t 3)⟩,⟨some 5,none,.fa 0 (.t 4)⟩,⟨some 6,none,.ld none (.t 5)⟩,⟨some 7,none,.mov (.t 0)⟩,⟨some 8,none,.ck (.t 7)⟩,⟨some 9,none,.fa 1 (.t 8)⟩,⟨some 10,none,.ld none (.t 9)⟩,⟨some 11,none,.mov (.t 0)⟩,⟨some 12,none,.ck (.t 11)⟩,⟨some 13,none,.fa 2 (.t 12)⟩,⟨some 14,none,.ld (some 8) (.t 13)⟩,⟨some 15,none,.call 66 [(.t 6),(.t 10),(.t 14)]⟩,⟨some 16,none,.mov (.t 15)⟩,⟨some 17,(some (16,true)),.mov (.t 0)⟩,⟨some 18,(some (16,true)),.ck (.t 17)⟩,⟨some 19,(some (16,true)),.fa 0 (.t 18)⟩,⟨some 20,(some (16,true)),.ld none (.t 19)⟩,⟨some 21,(some (16,true)),.mov (.t 0)⟩,⟨some 22,(some (16,true)),.ck (.t 21)⟩,⟨some 23,(some (16,true)),.fa 1 (.t 22)⟩,⟨some 24,(some (16,true)),.ld none (.t 23)⟩,⟨some 25,(some (16,true)),.mov (.t 0)⟩,⟨some 26,(some (16,true)),.ck (.t 25)⟩,⟨some 27,(some (16,true)),.fa 10 (.t 26)⟩,⟨some 28,(some (16,true)),.call 116 [(.t 20),(.t 24),(.t 27)]⟩,⟨some 29,none,.pick (.t 16) (.t 28) (.c (.bool false))⟩,⟨some 2,none,.mov (.t 29)⟩]) .ret))

set_option maxRecDepth 100000 in
theorem tr82 : trFn Tryz.prog Tryz.f82 = some (30, ir82, [.tmp 2]) := by kernel_rfl

theorem Algebra_isShaped (p n' : Int) (u m : Nat → Int) (b : Nat) (K : Blk) (H : Hp) (n : Nat) (hb : H.get b = some K) (hsz : K.size = 522) (h0 : K.c 0 = .int .i64 p) (h1 : K.c 1 = .int .i64 n')
    (hU : ∀ q, q < 8 → K.c (2 + q) = .int .u8 (u q)) (hK : ∀ q, q < 512 → K.c (10 + q) = .int .u8 (m q)) (hu : isBy 8 u) (hm : isBy 512 m) :
    FnS Tryz.prog 82 [ptr b 0] H n (fun v H' _ => v = bl (tb (shp p n' u m)) ∧ H' = H) := by
  refine FnS.of_body Tryz.func82 tr82 (by simp) (fun hf => ?_)
  dsimp only [argEnv]
  unfold ir82
  have hbn := getlt hf hb
  (refine zG ?_)
  refine LS.callQ (bl (tb (sz p n' ∧ isVec p n' u))) rfl (fun n' hn' => impl_IsVector _ _ u _ _ hu) ?_
  (refine zG ?_)
  refine RS.sp (t := 16) rfl (fun h2 => ?_) (fun h2 => ?_) <;> (try simp only [tb_eq, tb_eqF, decide_eq_true_eq, decide_eq_false_iff_not, beq_iff_eq, bne_iff_ne, ne_eq, Decidable.not_not, beq_eq_false_iff_ne, bne_eq_false_iff_eq, Bool.not_eq_true', Bool.not_eq_false', Bool.not_eq_eq_eq_not, Bool.not_true, Bool.not_false] at h2)
  · (repeat first|refine zG ?_|(refine LS.nilO ?_;intro nq hnq hltq;try refine zU ?_)|(refine MS.new ?_;intro bq hbq hbqf;try refine zU ?_)|(refine MS.nil ?_;intro nq hnq hltq;have hlq:=hltq _ _ (Hp.get_eq _ _ _);clear hltq;try refine zU ?_)|(refine LS.nilQ ?_;try with_reducible intro nq hnq;try refine zU ?_))
    refine RS.call rfl ((impl_isTable p n' m b 10 K _ _ hb (by omega) hK hm).mono ?_)
    rintro r H' n3 hn3 ⟨rfl, rfl⟩
    (refine zG ?_)
    exact ⟨_, _, rfl, by exact zD, congrArg bl (tb_iff ⟨fun h => ⟨h.1, h2.2, h.2⟩, fun h => ⟨h.1, h.2.2⟩⟩), rfl⟩
  · (repeat first|refine zG ?_|(refine LS.nilO ?_;intro nq hnq hltq;try refine zU ?_)|(refine MS.new ?_;intro bq hbq hbqf;try refine zU ?_)|(refine MS.nil ?_;intro nq hnq hltq;have hlq:=hltq _ _ (Hp.get_eq _ _ _);clear hltq;try refine zU ?_)|(refine LS.nilQ ?_;try with_reducible intro nq hnq;try refine zU ?_))
    exact ⟨_, _, rfl, by exact zD, by rw [tb_false (fun h => h2 ⟨h.1, h.2.1⟩)], rfl⟩

/-- (*impl.Coalgebra).isShaped -/
def ir84 : Cd := (.seq (.reg [⟨some 2,none,.mov (.c (.bool false))⟩]) (.seq (.drw true [25] [⟨some 3,none,.mov (.t 0)⟩,⟨some 4,none,.ck (.t 3)⟩,⟨some 5,none,.fa 0 (.t 4)⟩,⟨some 6,none,.ld none (.t 5)⟩,⟨some 7,none,.mov (.t 0)⟩,⟨some 8,none,.ck (.t 7)⟩,⟨some 9,none,.fa 1 (.t 8)⟩,⟨some 10,none,.ld none (.t 9)⟩,⟨some 11,none,.mov (.t 0)⟩,⟨some 12,none,.ck (.t 11)⟩,⟨some 13,none,.fa 2 (.t 12)⟩,⟨some 14,none,.ld (some 8) (.t 13)⟩,⟨some 15,none,.call 66 [(.t 6),(.t 10),(.t 14)]⟩,⟨some 16,none,.mov (.t 15)⟩,⟨some 17,(some (16,true)),.mov (.t 0)⟩,⟨some 18,(some (16,true)),.ck (.t 17)⟩,⟨some 19,(some (16,true)),.fa 0 (.t 18)⟩,⟨some 20,(some (16,true)),.ld none (.t 19)⟩,⟨some 21,(some (16,true)),.mov (.t 0)⟩,⟨some 22,(some (16,true)),.ck (.t 21)⟩,⟨some 23,(some (16,true)),.fa 1 (.t 22)⟩,⟨some 24,(some (16,true)),.ld none (.t 23)⟩,⟨some 25,(some (16,true)),.mov (.t 0)⟩,⟨some 26,(some (16,true)),.ck (.t 25)⟩,⟨some 27,(some (16,true)),.fa 10 (.t 26)⟩,⟨some 28,(some (16,true)),.call 116 [(.t 20),(.t 24),(.t 27)]⟩,⟨some 29,none,.pick (.t 16) (.t 28) (.c (.bool false))⟩,⟨some 2,none,.mov (.t 29)⟩]) .ret))

set_option maxRecDepth 100000 in
theorem tr84 : trFn Tryz.prog Tryz.f84 = some (30, ir84, [.tmp 2]) := by kernel_rfl

theorem Coalgebra_isShaped (p n' : Int) (u m : Nat → Int) (b : Nat) (K : Blk) (H : Hp) (n : Nat) (hb : H.get b = some K) (hsz : K.size = 522) (h0 : K.c 0 = .int .i64 p) (h1 : K.c 1 = .int .i64 n')
    (hU : ∀ q, q < 8 → K.c (2 + q) = .int .u8 (u q)) (hK : ∀ q, q < 512 → K.c (10 + q) = .int .u8 (m q)) (hu : isBy 8 u) (hm : isBy 512 m) :
    FnS Tryz.prog 84 [ptr b 0] H n (fun v H' _ => v = bl (tb (shp p n' u m)) ∧ H' = H) := by
  refine FnS.of_body Tryz.func84 tr84 (by simp) (fun hf => ?_)
  dsimp only [argEnv]
  unfold ir84
  have hbn := getlt hf hb
  (refine zG ?_)
  refine LS.callQ (bl (tb (sz p n' ∧ isVec p n' u))) rfl (fun n' hn' => impl_IsVector _ _ u _ _ hu) ?_
  (refine zG ?_)
  refine RS.sp (t := 16) rfl (fun h2 => ?_) (fun h2 => ?_) <;> (try simp only [tb_eq, tb_eqF, decide_eq_true_eq, decide_eq_false_iff_not, beq_iff_eq, bne_iff_ne, ne_eq, Decidable.not_not, beq_eq_false_iff_ne, bne_eq_false_iff_eq, Bool.not_eq_true', Bool.not_eq_false', Bool.not_eq_eq_eq_not, Bool.not_true, Bool.not_false] at h2)
  · (repeat first|refine zG ?_|(refine LS.nilO ?_;intro nq hnq hltq;try refine zU ?_)|(refine MS.new ?_;intro bq hbq hbqf;try refine zU ?_)|(refine MS.nil ?_;intro nq hnq hltq;have hlq:=hltq _ _ (Hp.get_eq _ _ _);clear hltq;try refine zU ?_)|(refine LS.nilQ ?_;try with_reducible intro nq hnq;try refine zU ?_))
    refine RS.call rfl ((impl_isTable p n' m b 10 K _ _ hb (by omega) hK hm).mono ?_)
    rintro r H' n3 hn3 ⟨rfl, rfl⟩
    (refine zG ?_)
    exact ⟨_, _, rfl, by exact zD, congrArg bl (tb_iff ⟨fun h => ⟨h.1, h2.2, h.2⟩, fun h => ⟨h.1, h.2.2⟩⟩), rfl⟩
  · (repeat first|refine zG ?_|(refine LS.nilO ?_;intro nq hnq hltq;try refine zU ?_)|(refine MS.new ?_;intro bq hbq hbqf;try refine zU ?_)|(refine MS.nil ?_;intro nq hnq hltq;have hlq:=hltq _ _ (Hp.get_eq _ _ _);clear hltq;try refine zU ?_)|(refine LS.nilQ ?_;try with_reducible intro nq hnq;try refine zU ?_))
    exact ⟨_, _, rfl, by exact zD, by rw [tb_false (fun h => h2 ⟨h.1, h.2.1⟩)], rfl⟩

/-- spec.l03Folded -/
def ir114 : Cd := (.seq (.reg [⟨some 4,none,.box 38 (.t 0)⟩,⟨some 6,none,.box 34 (.t 2)⟩,⟨some 8,none,.new 32 [(8,(.int .u8 0))]⟩]) (.seq (.reg [⟨some 15,none,.build 8 [(8,(.int .u8 0))] []⟩,⟨some 16,none,.ld (some 1106) (.t 4)⟩,⟨some 17,none,.call 20 [(.t 16)]⟩,⟨some 9,none,.new 32 [(8,(.int .u8 0))]⟩,⟨some 10,none,.new 52 [(2,(.int .i64 0)),(520,(.int .u8 0))]⟩,⟨none,none,.st 8 (.t 9) (.t 15)⟩,⟨none,none,.st 522 (.t 10) (.t 17)⟩]) (.seq (.seq (.reg [⟨some 11,none,.mov (.c (.int .i64 0))⟩]) (.block 0 (.loop (.seq (.seq (.reg [⟨some 18,none,.mov (.t 11)⟩,⟨some 19,none,.fa 1 (.t 4)⟩,⟨some 20,none,.ld none (.t 19)⟩,⟨some 21,none,.bin .lss (.t 18) (.t 20)⟩]) (.cond (.t 21) .skip (.exit 0))) (.seq (.block 1 (.seq (.reg [⟨some 12,none,.mov (.c (.int .i64 0))⟩]) (.block 2 (.loop (.seq (.seq (.reg [⟨some 24,none,.mov (.t 12)⟩,⟨some 25,none,.fa 1 (.t 4)⟩,⟨some 26,none,.ld none (.t 25)⟩,⟨some 27,none,.bin .lss (.t 24) (.t 26)⟩]) (.cond (.t 27) .skip (.exit 2))) (.seq (.block 3 (.seq (.reg [⟨some 30,none,.mov (.t 1)⟩,⟨some 31,none,.mov (.t 11)⟩,⟨some 32,none,.mov (.t 12)⟩,⟨some 33,none,.fa 530 (.t 4)⟩,⟨some 34,none,.ia 8 64 (.t 33) (.t 30)⟩,⟨some 35,none,.ia 8 8 (.t 34) (.t 31)⟩,⟨some 36,none,.ia 8 1 (.t 35) (.t 32)⟩,⟨some 37,none,.ld none (.t 36)⟩,⟨some 38,none,.cv .i64 (.t 37)⟩,⟨some 13,none,.mov (.t 38)⟩]) (.seq (.reg [⟨some 39,none,.mov (.t 13)⟩,⟨some 40,none,.bin .neq (.t 39) (.c (.int .i64 0))⟩]) (.cond (.t 40) (.seq (.mix [⟨some 41,none,.ld (some 522) (.t 10)⟩,⟨some 42,none,.mov (.t 11)⟩,⟨some 43,none,.ia 8 8 (.t 6) (.t 42)⟩,⟨some 44,none,.ld (some 8) (.t 43)⟩,⟨some 45,none,.mov (.t 12)⟩,⟨some 46,none,.call 21 [(.t 45)]⟩,⟨some 47,none,.call 19 [(.t 41),(.t 44),(.t 46)]⟩] [⟨some 14,none,.new 32 [(8,(.int .u8 0))]⟩,⟨none,none,.st 8 (.t 14) (.t 47)⟩]) (.seq (.seq (.reg [⟨some 48,none,.mov (.t 3)⟩]) (.cond (.t 48) (.drwo true [6,7] [0,1,3,4,5,2,6,7] [⟨some 49,none,.ld (some 522) (.t 10)⟩,⟨some 50,none,.mov (.t 11)⟩,⟨some 51,none,.call 21 [(.t 50)]⟩,⟨some 52,none,.mov (.t 12)⟩,⟨some 53,none,.ia 8 8 (.t 6) (.t 52)⟩,⟨some 54,none,.ld (some 8) (.t 53)⟩,⟨some 55,none,.call 19 [(.t 49),(.t 51),(.t 54)]⟩,⟨none,none,.st 8 (.t 14) (.t 55)⟩]) .skip)) (.reg [⟨some 56,none,.fa 0 (.t 4)⟩,⟨some 57,none,.ld none (.t 56)⟩,⟨some 58,none,.ld (some 8) (.t 9)⟩,⟨some 59,none,.ld (some 8) (.t 14)⟩,⟨some 60,none,.mov (.t 13)⟩,⟨some 61,none,.call 42 [(.t 57),(.t 58),(.t 59),(.t 60)]⟩,⟨none,none,.st 8 (.t 9) (.t 61)⟩]))) .skip)))) (.reg [⟨some 28,none,.mov (.t 12)⟩,⟨some 29,none,.bin .add (.t 28) (.c (.int .i64 1))⟩,⟨some 12,none,.mov (.t 29)⟩]))))))) (.reg [⟨some 22,none,.mov (.t 11)⟩,⟨some 23,none,.bin .add (.t 22) (.c (.int .i64 1))⟩,⟨some 11,none,.mov (.t 23)⟩])))))) (.seq (.reg [⟨some 62,none,.ld (some 8) (.t 9)⟩,⟨none,none,.st 8 (.t 8) (.t 62)⟩]) .ret))))

set_option maxRecDepth 100000 in
theorem tr114 : trFn Tryz.prog Tryz.f114 = some (63, ir114, [.cell (some 8) 8]) := by kernel_rfl

theorem spec_l03Folded (h : HT) (a : Nat) (i : Nat) (bh : Bool) (g : Nat → Nat → Int) (hg : g = if bh = true then g7 h.p h.m h.s a else g6 h.p h.m h.s a) (hi : i < a) (K : Nat → SV) (H : Hp) (n : Nat) (hS : HS h a) (hK : h.At K) (hB : h.By) :
    FnS Tryz.prog 114 [.arr 1106 K, i64 i, .arr 64 (bys h.s), bl bh] H n (fun r H' _ => r = .arr 8 (bys (fold h.p h.c i g 64)) ∧ H' = H) := by
  have hp := hS.hp
  have ha := hS.ha
  have hk0 := hK.p
  have hk1 := hK.n
  rw [hS.hn] at hk1
  have hk5 := hK.c
  have hk6 := hK.m
  refine FnS.of_body Tryz.func114 tr114 (by simp) (fun hf => ?_)
  dsimp only [argEnv]
  unfold ir114
  (refine zG ?_)
  refine RS.call rfl ((FnS.args (concs_cons (conc_arr (fun q hq => rfl)) rfl) (spec_l03Algebra K h _ _ hK)).mono ?_)
  rintro r H n2 hn2 ⟨rfl, rfl⟩
  (refine zG ?_)
  refine CS.iter a (fun j => [(11, i64 j), (4, ptr n 0), (6, ptr (n + 1) 0), (8, ptr (n + 2) 0), (9, ptr n2 0), (10, ptr (n2 + 1) 0), (1, i64 i), (3, bl bh)])
    (fun j => (n2 + 1, ⟨522, K, 52⟩) :: (n2, ⟨8, bys (fold h.p h.c i g (8 * j)), 32⟩) :: (n + 2, ⟨8, bys (fun _ => 0), 32⟩) :: (n + 1, ⟨64, bys h.s, 34⟩) :: (n, ⟨1106, K, 38⟩) :: H) (fun _ => True) (by (repeat first | exact trivial | refine And.intro rfl ?_))
    (Drops.keepc rfl rfl (fun _ _ => rfl) (Drops.keepc rfl rfl (fun _ _ => by rw [show fold h.p h.c i g (8 * 0) = fun _ => 0 from fold_zero _ _ _ _]; rfl) (Drops.keepc rfl rfl (fun _ _ => rfl) (Drops.refl _ _)))) trivial ?_
  intro j n3 hj hn _
  (refine zG ?_)
  refine zI ?_ ?_<;>intro h2
  · (refine zG ?_)
    refine CS.iter a (fun k => [(12, i64 k), (11, i64 j), (4, ptr n 0), (6, ptr (n + 1) 0), (8, ptr (n + 2) 0), (9, ptr n2 0), (10, ptr (n2 + 1) 0), (1, i64 i), (3, bl bh)])
      (fun k => (n2 + 1, ⟨522, K, 52⟩) :: (n2, ⟨8, bys (fold h.p h.c i g (8 * j + k)), 32⟩) :: (n + 2, ⟨8, bys (fun _ => 0), 32⟩) :: (n + 1, ⟨64, bys h.s, 34⟩) :: (n, ⟨1106, K, 38⟩) :: H) (fun _ => True) (by (repeat first | exact trivial | refine And.intro rfl ?_))
      (Drops.refl _ _) trivial ?_
    intro k n4 hk hn4 _
    (refine zG ?_)
    refine zI ?_ ?_<;>intro h3
    · have hct := hB.c (64 * i + 8 * j + k) (by omega)
      have ect : 64 * i + 8 * j + k = 64 * i + (8 * j + k) := by omega
      (refine zG ?_)
      refine zI ?_ ?_<;>intro h4
      · (refine zG ?_)
        refine LS.callQ (.arr 8 (bys (bas k))) rfl (fun n' hn' => spec_l01Basis k _ _ (by omega)) ?_
        (repeat first|refine zG ?_|(refine LS.nilO ?_;intro nq hnq hltq;try refine zU ?_)|(refine MS.new ?_;intro bq hbq hbqf;try refine zU ?_)|(refine MS.nil ?_;intro nq hnq hltq;have hlq:=hltq _ _ (Hp.get_eq _ _ _);clear hltq;try refine zU ?_)|(refine LS.nilQ ?_;try with_reducible intro nq hnq;try refine zU ?_))
        refine LS.callQ (.arr 8 (bys (g6 h.p h.m h.s a (8 * j + k)))) rfl (fun n' hn' => by
          unfold g6; rw [show (8 * j + k) / 8 = j by omega, show (8 * j + k) % 8 = k by omega]
          exact spec_l01Times h.p a h.m (fun y => h.s (8 * j + y)) (bas k) K _ _ hp ha hk0 hk1 hk6 hB.m (hB.rows (by omega)) (bas_by _ _)) ?_
        (repeat first|refine zG ?_|(refine LS.nilO ?_;intro nq hnq hltq;try refine zU ?_)|(refine MS.new ?_;intro bq hbq hbqf;try refine zU ?_)|(refine MS.nil ?_;intro nq hnq hltq;have hlq:=hltq _ _ (Hp.get_eq _ _ _);clear hltq;try refine zU ?_)|(refine LS.nilQ ?_;try with_reducible intro nq hnq;try refine zU ?_))
        cases bh
        · have hg6 : g = g6 h.p h.m h.s a := by rw [hg]; rfl
          (refine zG ?_)
          refine RS.call rfl ((spec_l01Add h.p (h.c (64 * i + 8 * j + k)) (fold h.p h.c i g (8 * j + k)) (g6 h.p h.m h.s a (8 * j + k)) _ _ hp ((fold_res hp.1 _ _ _ _ 8).by hp.2) ((g6_res hp.1 _ _ _ _ 8).by hp.2) (by omega)).mono ?_)
          rintro r H5 n5 hn5 ⟨rfl, rfl⟩
          (refine zG ?_)
          exact ⟨by omega, by (repeat first | exact trivial | refine And.intro rfl ?_), Drops.drop (by omega) (by simp (disch := omega) only [Hp.get_ne]; exact hf _ (by omega)) (Drops.keepc rfl rfl (fun _ _ => rfl) (Drops.keepc rfl rfl (fun q hq => by rw [ect, ← hg6, fold_step]; rfl) (Drops.refl _ _))), trivial⟩
        · have hg7 : g = g7 h.p h.m h.s a := by rw [hg]; rfl
          (refine zG ?_)
          refine CS.tailLo _ (List.Mem.head _) ?_; dsimp only [List.take, List.drop]
          (refine zG ?_)
          refine LS.callQ (.arr 8 (bys (bas j))) rfl (fun n' hn' => spec_l01Basis j _ _ (by omega)) ?_
          (repeat first|refine zG ?_|(refine LS.nilO ?_;intro nq hnq hltq;try refine zU ?_)|(refine MS.new ?_;intro bq hbq hbqf;try refine zU ?_)|(refine MS.nil ?_;intro nq hnq hltq;have hlq:=hltq _ _ (Hp.get_eq _ _ _);clear hltq;try refine zU ?_)|(refine LS.nilQ ?_;try with_reducible intro nq hnq;try refine zU ?_))
          refine RS.call rfl ((spec_l01Times h.p a h.m (bas j) (fun y => h.s (8 * k + y)) K _ _ hp ha hk0 hk1 hk6 hB.m (bas_by _ _) (hB.rows (by omega))).mono ?_)
          rintro r H5 n5 hn5 ⟨rfl, rfl⟩
          have e7 : pr h.p h.m (bas j) (fun y => h.s (8 * k + y)) a = g7 h.p h.m h.s a (8 * j + k) := by
            unfold g7; rw [show (8 * j + k) / 8 = j by omega, show (8 * j + k) % 8 = k by omega]
          rw [e7]
          (refine zG ?_)
          refine RS.call rfl ((spec_l01Add h.p (h.c (64 * i + 8 * j + k)) (fold h.p h.c i g (8 * j + k)) (g7 h.p h.m h.s a (8 * j + k)) _ _ hp ((fold_res hp.1 _ _ _ _ 8).by hp.2) ((g7_res hp.1 _ _ _ _ 8).by hp.2) (by omega)).mono ?_)
          rintro r H6 n6 hn6 ⟨rfl, rfl⟩
          (refine zG ?_)
          exact ⟨by omega, by (repeat first | exact trivial | refine And.intro rfl ?_), Drops.drop (by omega) (by simp (disch := omega) only [Hp.get_ne]; exact hf _ (by omega)) (Drops.keepc rfl rfl (fun _ _ => rfl) (Drops.keepc rfl rfl (fun q hq => by rw [ect, ← hg7, fold_step]; rfl) (Drops.refl _ _))), trivial⟩
      · (refine zG ?_)
        exact ⟨by omega, by (repeat first | exact trivial | refine And.intro rfl ?_), Drops.keepc rfl rfl (fun _ _ => rfl) (Drops.keepc rfl rfl (fun q hq => by
          rw [ect] at h4; rw [show 8 * j + (k + 1) = 8 * j + k + 1 from rfl, fold_skip h4]) (Drops.refl _ _)), trivial⟩
    · have : k = a := by omega
      subst this
      (refine zG ?_)
      exact ⟨by omega, by (repeat first | exact trivial | refine And.intro rfl ?_), Drops.keepc rfl rfl (fun _ _ => rfl) (Drops.keepc rfl rfl (fun q hq => by rw [fold_row hS.cm (by omega) ha (by omega)]; rfl) (Drops.refl _ _)), trivial⟩
  · have : j = a := by omega
    subst this
    (refine zG ?_)
    exact ⟨.arr 8 (bys (fold h.p h.c i g 64)), H, conc_arr (fun q hq => by simp only [Nat.zero_add]; rw [← fold_end hS.cm (by omega) ha]; rfl), by exact zD, rfl, rfl⟩

end Go.Proofs.YtideblodkkgodaaGreat
