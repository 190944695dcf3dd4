/- Contracts of the program's functions. -/
import Derived.Test.YtideblodkkgodaaGreatJam
import Derived.Test.YtideblodkkgodaaGreatJal
import Derived.Test.YtideblodkkgodaaGreatJau
import Derived.Test.YtideblodkkgodaaGreatJaw
set_option linter.unusedSectionVars false
set_option linter.unusedVariables false
set_option linter.unusedSimpArgs false

namespace Go.Proofs.YtideblodkkgodaaGreat

open Go.V

variable [BW]

set_option linter.unusedSimpArgs false

set_option linter.unusedVariables false

set_option maxHeartbeats 4000000

/-- impl.isTable -/
def ir116 : Cd := (.seq (.reg [⟨some 6,none,.mov (.c (.bool false))⟩]) (.seq (.seq (.reg [⟨some 8,none,.mov (.c (.int .i64 0))⟩]) (.block 0 (.loop (.seq (.reg [⟨some 9,none,.bin .lss (.t 8) (.c (.int .i64 8))⟩]) (.seq (.cond (.t 9) .skip (.exit 0)) (.seq (.block 1 (.seq (.reg [⟨some 10,none,.mov (.t 8)⟩,⟨some 7,none,.mov (.t 10)⟩]) (.seq (.reg [⟨some 11,none,.mov (.t 0)⟩,⟨some 12,none,.mov (.t 1)⟩,⟨some 13,none,.mov (.t 1)⟩,⟨some 14,none,.mov (.t 2)⟩,⟨some 15,none,.mov (.t 7)⟩,⟨some 16,none,.ck (.t 14)⟩,⟨some 17,none,.ia 8 64 (.t 16) (.t 15)⟩,⟨some 18,none,.call 85 [(.t 11),(.t 12),(.t 13),(.t 17)]⟩,⟨some 19,none,.un .not (.t 18)⟩,⟨some 20,none,.mov (.t 19)⟩,⟨some 21,(some (20,false)),.mov (.t 7)⟩,⟨some 22,(some (20,false)),.mov (.t 1)⟩,⟨some 23,(some (20,false)),.bin .geq (.t 21) (.t 22)⟩,⟨some 24,(some (20,false)),.mov (.t 23)⟩,⟨some 25,(some (24,true)),.mov (.t 2)⟩,⟨some 26,(some (24,true)),.mov (.t 7)⟩,⟨some 27,(some (24,true)),.ck (.t 25)⟩,⟨some 28,(some (24,true)),.ia 8 64 (.t 27) (.t 26)⟩,⟨some 29,(some (24,true)),.ld (some 64) (.t 28)⟩,⟨some 30,(some (24,true)),.build 64 [(64,(.int .u8 0))] []⟩,⟨some 31,(some (24,true)),.eqa true 64 (.t 29) (.t 30)⟩,⟨some 32,(some (20,false)),.pick (.t 24) (.t 31) (.c (.bool false))⟩,⟨some 33,none,.pick (.t 20) (.c (.bool true)) (.t 32)⟩]) (.cond (.t 33) (.seq (.reg [⟨some 6,none,.mov (.c (.bool false))⟩]) .ret) .skip)))) (.reg [⟨some 34,none,.bin .add (.t 8) (.c (.int .i64 1))⟩,⟨some 8,none,.mov (.t 34)⟩]))))))) (.seq (.reg [⟨some 6,none,.mov (.c (.bool true))⟩]) .ret)))

set_option maxRecDepth 100000 in
theorem tr116 : trFn Tryz.prog Tryz.f116 = some (35, ir116, [.tmp 6]) := by kernel_rfl

theorem impl_isTable (p n' : Int) (t : Nat → Int) (b o : Nat) (K : Blk) (H : Hp) (n : Nat) (hb : H.get b = some K) (ho : o + 512 ≤ K.size) (hc : ∀ i, i < 512 → K.c (o + i) = .int .u8 (t i)) (ht : isBy 512 t) :
    FnS Tryz.prog 116 [i64 p, i64 n', ptr b o] H n (fun r H' _ => r = bl (tb (sz p n' ∧ isTab p n' t)) ∧ H' = H) := by
  refine FnS.of_body Tryz.func116 tr116 (by simp) (fun hf => ?_)
  dsimp only [argEnv]
  unfold ir116
  (refine zG ?_)
  refine CS.iter 8 (fun i => [(8, i64 i), (2, ptr b o), (0, i64 p), (1, i64 n')]) (fun _ => H) (fun i => (1 ≤ i → sz p n') ∧ ∀ j : Nat, j < i → isLin p n' n' (fun x => t (64 * j + x)) ∧ (n' ≤ j → ∀ x, x < 64 → t (64 * j + x) = 0)) (by (repeat first | exact trivial | refine And.intro rfl ?_)) (Drops.refl _ _) ⟨by omega, fun j hj => by omega⟩ ?_
  intro i n1 hi hn hJ
  (refine zG ?_)
  refine zI ?_ ?_<;>intro h1
  · (refine zG ?_)
    refine RS.call rfl ((impl_isLinear p n' n' (fun x => t (64 * i + x)) b (o + 64 * i) K _ _ hb (by omega) (fun x hx => by rw [Nat.add_assoc]; exact hc _ (by omega)) (fun x hx => ht _ (by omega))).mono ?_)
    rintro r H' n2 hn2 ⟨rfl, rfl⟩
    (refine zG ?_)
    refine RS.sp (t := 20) rfl (fun h2 => ?_) (fun h2 => ?_) <;> (try simp only [tb_eq, tb_eqF, decide_eq_true_eq, decide_eq_false_iff_not, beq_iff_eq, bne_iff_ne, ne_eq, Decidable.not_not, beq_eq_false_iff_ne, bne_eq_false_iff_eq, Bool.not_eq_true', Bool.not_eq_false', Bool.not_eq_eq_eq_not, Bool.not_true, Bool.not_false] at h2)
    · (refine zG ?_)
      exact ⟨_, H', rfl, by exact zD, by rw [tb_false (fun h => h2 ⟨h.1, (h.2 i (by omega)).1⟩)], rfl⟩
    · (refine zG ?_)
      refine RS.sp (t := 24) rfl (fun h3 => ?_) (fun h3 => ?_) <;> (try simp only [tb_eq, tb_eqF, decide_eq_true_eq, decide_eq_false_iff_not, beq_iff_eq, bne_iff_ne, ne_eq, Decidable.not_not, beq_eq_false_iff_ne, bne_eq_false_iff_eq, Bool.not_eq_true', Bool.not_eq_false', Bool.not_eq_eq_eq_not, Bool.not_true, Bool.not_false] at h3)
      · (refine zG ?_)
        refine zI ?_ ?_<;>intro h4
        · (refine zG ?_)
          exact ⟨_, H', rfl, by exact zD, by rw [tb_false (fun h => h4 (fun x hx => (h.2 i (by omega)).2 (by omega) x hx))], rfl⟩
        · (refine zG ?_)
          refine ⟨by omega, by (repeat first | exact trivial | refine And.intro rfl ?_), by exact zD, fun _ => h2.1, fun j hj => ?_⟩
          by_cases e : j < i
          · exact hJ.2 j e
          · have : j = i := by omega
            subst this; exact ⟨h2.2, fun _ => h4⟩
      · (refine zG ?_)
        refine ⟨by omega, by (repeat first | exact trivial | refine And.intro rfl ?_), by exact zD, fun _ => h2.1, fun j hj => ?_⟩
        by_cases e : j < i
        · exact hJ.2 j e
        · have : j = i := by omega
          subst this; exact ⟨h2.2, fun h => by omega⟩
  · (refine zG ?_)
    exact ⟨_, _, rfl, by exact zD, by rw [tb_true (show sz p n' ∧ isTab p n' t from ⟨hJ.1 (by omega), fun j hj => hJ.2 j (by omega)⟩)], rfl⟩

/-- spec.l01Times -/
def ir19 : Cd := (.seq (.reg [⟨some 3,none,.box 52 (.t 0)⟩,⟨some 4,none,.box 32 (.t 1)⟩,⟨some 5,none,.box 32 (.t 2)⟩,⟨some 6,none,.new 32 [(8,(.int .u8 0))]⟩]) (.seq (.reg [⟨some 9,none,.build 8 [(8,(.int .u8 0))] []⟩,⟨some 7,none,.new 32 [(8,(.int .u8 0))]⟩,⟨none,none,.st 8 (.t 7) (.t 9)⟩]) (.seq (.seq (.reg [⟨some 8,none,.mov (.c (.int .i64 0))⟩]) (.block 0 (.loop (.seq (.seq (.reg [⟨some 10,none,.mov (.t 8)⟩,⟨some 11,none,.fa 1 (.t 3)⟩,⟨some 12,none,.ld none (.t 11)⟩,⟨some 13,none,.bin .lss (.t 10) (.t 12)⟩]) (.cond (.t 13) .skip (.exit 0))) (.seq (.block 1 (.seq (.reg [⟨some 16,none,.mov (.t 8)⟩,⟨some 17,none,.ia 8 1 (.t 4) (.t 16)⟩,⟨some 18,none,.ld none (.t 17)⟩,⟨some 19,none,.bin .neq (.t 18) (.c (.int .u8 0))⟩]) (.cond (.t 19) (.drwo true [17,18] [0,1,2,3,4,5,6,7,8,9,10,11,13,14,15,16,12,17,18] [⟨some 20,none,.fa 0 (.t 3)⟩,⟨some 21,none,.ld none (.t 20)⟩,⟨some 22,none,.ld (some 8) (.t 7)⟩,⟨some 23,none,.fa 0 (.t 3)⟩,⟨some 24,none,.ld none (.t 23)⟩,⟨some 25,none,.fa 1 (.t 3)⟩,⟨some 26,none,.ld none (.t 25)⟩,⟨some 27,none,.mov (.t 8)⟩,⟨some 28,none,.fa 10 (.t 3)⟩,⟨some 29,none,.ia 8 64 (.t 28) (.t 27)⟩,⟨some 30,none,.ld (some 64) (.t 29)⟩,⟨some 31,none,.ld (some 8) (.t 5)⟩,⟨some 32,none,.call 46 [(.t 24),(.t 26),(.t 30),(.t 31)]⟩,⟨some 33,none,.mov (.t 8)⟩,⟨some 34,none,.ia 8 1 (.t 4) (.t 33)⟩,⟨some 35,none,.ld none (.t 34)⟩,⟨some 36,none,.cv .i64 (.t 35)⟩,⟨some 37,none,.call 42 [(.t 21),(.t 22),(.t 32),(.t 36)]⟩,⟨none,none,.st 8 (.t 7) (.t 37)⟩]) .skip))) (.reg [⟨some 14,none,.mov (.t 8)⟩,⟨some 15,none,.bin .add (.t 14) (.c (.int .i64 1))⟩,⟨some 8,none,.mov (.t 15)⟩])))))) (.seq (.reg [⟨some 38,none,.ld (some 8) (.t 7)⟩,⟨none,none,.st 8 (.t 6) (.t 38)⟩]) .ret))))

set_option maxRecDepth 100000 in
theorem tr19 : trFn Tryz.prog Tryz.f19 = some (39, ir19, [.cell (some 8) 6]) := by kernel_rfl

theorem spec_l01Times (p : Int) (a : Nat) (m v w : Nat → Int) (K : Nat → SV) (H : Hp) (n : Nat) (hp : 2 ≤ p ∧ p ≤ 31) (ha : a ≤ 8) (h0 : K 0 = .int .i64 p) (h1 : K 1 = .int .i64 a)
    (hK : ∀ q, q < 512 → K (10 + q) = .int .u8 (m q)) (hm : isBy 512 m) (hv : isBy 8 v) (hw : isBy 8 w) :
    FnS Tryz.prog 19 [.arr 522 K, .arr 8 (bys v), .arr 8 (bys w)] H n (fun r H' _ => r = .arr 8 (bys (pr p m v w a)) ∧ H' = H) := by
  refine FnS.of_body Tryz.func19 tr19 (by simp) (fun hf => ?_)
  dsimp only [argEnv]
  unfold ir19
  (refine zG ?_)
  refine CS.iter a (fun i => [(8, i64 i), (3, ptr n 0), (4, ptr (n + 1) 0), (5, ptr (n + 2) 0), (6, ptr (n + 3) 0), (7, ptr (n + 4) 0)])
    (fun i => (n + 4, ⟨8, bys (pk p m v w a i 0), 32⟩) :: (n + 3, ⟨8, bys (fun _ => 0), 32⟩) :: (n + 2, ⟨8, bys w, 32⟩) :: (n + 1, ⟨8, bys v, 32⟩) :: (n, ⟨522, K, 52⟩) :: H) (fun _ => True) (by (repeat first | exact trivial | refine And.intro rfl ?_))
    (Drops.keepc rfl rfl (fun _ _ => by rw [pk_zero]; rfl) (Drops.keepc rfl rfl (fun _ _ => rfl) (Drops.refl _ _))) trivial ?_
  intro i n1 hi hn _
  (refine zG ?_)
  refine zI ?_ ?_<;>intro h2
  · have hvi := hv i (by omega)
    (refine zG ?_)
    refine zI ?_ ?_<;>intro h3
    · (repeat first|refine zG ?_|(refine LS.nilO ?_;intro nq hnq hltq;try refine zU ?_)|(refine MS.new ?_;intro bq hbq hbqf;try refine zU ?_)|(refine MS.nil ?_;intro nq hnq hltq;have hlq:=hltq _ _ (Hp.get_eq _ _ _);clear hltq;try refine zU ?_)|(refine LS.nilQ ?_;try with_reducible intro nq hnq;try refine zU ?_))
      refine CS.tailLo _ (List.Mem.head _) ?_; dsimp only [List.take, List.drop]
      (refine zG ?_)
      refine LS.callQ (.arr 8 (bys (apk p (fun q => m (64 * i + q)) w a))) rfl (fun n' hn' => spec_l01Apply p a (fun q => m (64 * i + q)) w _ _ hp ha (fun q hq => hm _ (by omega)) hw) ?_
      (repeat first|refine zG ?_|(refine LS.nilO ?_;intro nq hnq hltq;try refine zU ?_)|(refine MS.new ?_;intro bq hbq hbqf;try refine zU ?_)|(refine MS.nil ?_;intro nq hnq hltq;have hlq:=hltq _ _ (Hp.get_eq _ _ _);clear hltq;try refine zU ?_)|(refine LS.nilQ ?_;try with_reducible intro nq hnq;try refine zU ?_))
      refine RS.call rfl ((spec_l01Add p (v i) (pk p m v w a i 0) (apk p (fun q => m (64 * i + q)) w a) _ _ hp (fun q hq => by have := pk_res hp.1 m v w a i 0 8 q hq; omega) (fun q hq => by have := apk_res hp.1 (fun q => m (64 * i + q)) w a 8 q hq; omega) (by omega)).mono ?_)
      rintro r H' n2 hn2 ⟨rfl, rfl⟩
      (refine zG ?_)
      exact ⟨by omega, by (repeat first | exact trivial | refine And.intro rfl ?_), Drops.keepc rfl rfl (fun q hq => by rw [pk_whole]) (Drops.refl _ _), trivial⟩
    · (refine zG ?_)
      exact ⟨by omega, by (repeat first | exact trivial | refine And.intro rfl ?_), by rw [pk_skip h3]; exact Drops.refl _ _, trivial⟩
  · have : i = a := by omega
    subst this
    (refine zG ?_)
    exact ⟨.arr 8 (bys (pr p m v w i)), H, conc_arr (fun q hq => by simp only [Nat.zero_add]; rfl), by exact zD, rfl, rfl⟩

/-- (impl.field).pair -/
def ir122 : Cd := (.seq (.reg [⟨some 3,none,.box 62 (.t 0)⟩,⟨some 4,none,.box 32 (.t 1)⟩,⟨some 5,none,.box 32 (.t 2)⟩,⟨some 6,none,.new 34 [(64,(.int .u8 0))]⟩]) (.seq (.reg [⟨some 10,none,.build 64 [(64,(.int .u8 0))] []⟩,⟨some 7,none,.new 34 [(64,(.int .u8 0))]⟩,⟨none,none,.st 64 (.t 7) (.t 10)⟩]) (.seq (.seq (.reg [⟨some 11,none,.ld (some 8) (.t 4)⟩,⟨some 12,none,.mov (.c (.int .i64 0))⟩]) (.block 0 (.loop (.seq (.reg [⟨some 13,none,.bin .lss (.t 12) (.c (.int .i64 8))⟩]) (.seq (.cond (.t 13) .skip (.exit 0)) (.seq (.block 1 (.seq (.reg [⟨some 14,none,.mov (.t 12)⟩,⟨some 15,none,.ix 8 1 none (.t 11) (.t 12)⟩,⟨some 8,none,.mov (.t 14)⟩,⟨some 9,none,.mov (.t 15)⟩]) (.reg [⟨some 16,none,.mov (.t 8)⟩,⟨some 17,none,.ld (some 2) (.t 3)⟩,⟨some 18,none,.mov (.t 9)⟩,⟨some 19,none,.cv .i64 (.t 18)⟩,⟨some 20,none,.ld (some 8) (.t 5)⟩,⟨some 21,none,.call 124 [(.t 17),(.t 19),(.t 20)]⟩,⟨some 22,none,.ia 8 8 (.t 7) (.t 16)⟩,⟨none,none,.st 8 (.t 22) (.t 21)⟩]))) (.reg [⟨some 23,none,.bin .add (.t 12) (.c (.int .i64 1))⟩,⟨some 12,none,.mov (.t 23)⟩]))))))) (.seq (.reg [⟨some 24,none,.ld (some 64) (.t 7)⟩,⟨none,none,.st 64 (.t 6) (.t 24)⟩]) .ret))))

set_option maxRecDepth 100000 in
theorem tr122 : trFn Tryz.prog Tryz.f122 = some (25, ir122, [.cell (some 64) 6]) := by kernel_rfl

theorem field_pair (p n' : Int) (v w : Nat → Int) (H : Hp) (n : Nat) (hp : 2 ≤ p ∧ p ≤ 31) (hv : isBy 8 v) (hw : isBy 8 w) :
    FnS Tryz.prog 122 [fld p n', .arr 8 (bys v), .arr 8 (bys w)] H n (fun r H' _ => r = .arr 64 (bys (outer p v w)) ∧ H' = H) := by
  refine FnS.of_body Tryz.func122 tr122 (by simp) (fun hf => ?_)
  dsimp only [argEnv]
  unfold ir122
  (refine zG ?_)
  refine CS.iter 8 (fun i => [(12, i64 i), (11, .arr 8 (bys v)), (3, ptr n 0), (5, ptr (n + 2) 0), (6, ptr (n + 3) 0), (7, ptr (n + 4) 0)])
    (fun i => (n + 4, ⟨64, bys (rowsTo (fun _ => 0) (outer p v w) i), 34⟩) :: (n + 3, ⟨64, bys (fun _ => 0), 34⟩) :: (n + 2, ⟨8, bys w, 32⟩) :: (n + 1, ⟨8, bys v, 32⟩) :: (n, ⟨2, fldC p n', 62⟩) :: H) (fun _ => True) (by (repeat first | exact trivial | refine And.intro rfl ?_))
    (Drops.keepc rfl rfl (fun _ _ => by rw [rowsTo_zero]; rfl) (Drops.keepc rfl rfl (fun _ _ => rfl) (Drops.refl _ _))) trivial ?_
  intro i n1 hi hn _
  (refine zG ?_)
  refine zI ?_ ?_<;>intro h1
  · have hvi := hv i (by omega)
    (refine zG ?_)
    refine RS.call rfl ((field_times p n' (v i) w _ _ hp hw (by omega)).mono ?_)
    rintro r H n2 hn2 ⟨rfl, rfl⟩
    (refine zG ?_)
    exact ⟨by omega, by (repeat first | exact trivial | refine And.intro rfl ?_), Drops.keepc rfl rfl (fun q hq => rowsTo_step (fun y hy => outer_row _ _ _ _ _ hy) q) (Drops.refl _ _), trivial⟩
  · have : i = 8 := by omega
    subst this
    (refine zG ?_)
    exact ⟨.arr 64 (bys (outer p v w)), H, conc_arr (fun q hq => by simp only [Nat.zero_add, bys]; rw [rowsTo_all (n := 8) (N := 64) (fun q h1 h2 => by omega) hq]), by exact zD, rfl, rfl⟩

end Go.Proofs.YtideblodkkgodaaGreat
