/- Contracts of the program's functions. -/
import Derived.Test.YtbknndbfbebkdabGreatRR
import Derived.Test.YtbknndbfbebkdabGreatRLW
import Derived.Test.YtbknndbfbebkdabGreatRF1a
import Derived.Test.YtbknndbfbebkdabGreatRF1b
import Derived.Test.YtbknndbfbebkdabGreatRF1c
namespace Go.Proofs.YtbknndbfbebkdabGreatR
open Go.V
set_option linter.unusedSimpArgs false
set_option linter.unusedVariables false
set_option maxHeartbeats 4000000
/-- spec.l01Table -/
def ir91 : Cd := (.seq (.reg [⟨some 5,none,.box 33 (.t 2)⟩,⟨some 6,none,.mov (.c (.bool false))⟩]) (.seq (.seq (.reg [⟨some 7,none,.mov (.c (.int .i64 0))⟩]) (.block 0 (.loop (.seq (.seq (.reg [⟨some 8,none,.mov (.t 7)⟩,⟨some 9,none,.bin .lss (.t 8) (.c (.int .i64 8))⟩]) (.cond (.t 9) .skip (.exit 0))) (.seq (.block 1 (.seq (.reg [⟨some 12,none,.mov (.t 0)⟩,⟨some 13,none,.mov (.t 1)⟩,⟨some 14,none,.mov (.t 7)⟩,⟨some 15,none,.ia 8 64 (.t 5) (.t 14)⟩,⟨some 16,none,.ld (some 64) (.t 15)⟩,⟨some 17,none,.call 45 [(.t 12),(.t 13),(.t 16)]⟩,⟨some 18,none,.un .not (.t 17)⟩,⟨some 19,none,.mov (.t 18)⟩,⟨some 20,(some (19,false)),.mov (.t 7)⟩,⟨some 21,(some (19,false)),.mov (.t 1)⟩,⟨some 22,(some (19,false)),.bin .geq (.t 20) (.t 21)⟩,⟨some 23,(some (19,false)),.mov (.t 22)⟩,⟨some 24,(some (23,true)),.mov (.t 7)⟩,⟨some 25,(some (23,true)),.ia 8 64 (.t 5) (.t 24)⟩,⟨some 26,(some (23,true)),.ld (some 64) (.t 25)⟩,⟨some 27,(some (23,true)),.build 64 [(64,(.int .u8 0))] []⟩,⟨some 28,(some (23,true)),.eqa true 64 (.t 26) (.t 27)⟩,⟨some 29,(some (19,false)),.pick (.t 23) (.t 28) (.c (.bool false))⟩,⟨some 30,none,.pick (.t 19) (.c (.bool true)) (.t 29)⟩]) (.cond (.t 30) (.seq (.reg [⟨some 6,none,.mov (.c (.bool false))⟩]) .ret) .skip))) (.reg [⟨some 10,none,.mov (.t 7)⟩,⟨some 11,none,.bin .add (.t 10) (.c (.int .i64 1))⟩,⟨some 7,none,.mov (.t 11)⟩])))))) (.seq (.reg [⟨some 6,none,.mov (.c (.bool true))⟩]) .ret)))
set_option maxRecDepth 100000 in
theorem tr91 : trFn Tryz.prog Tryz.f91 = some (31, ir91, [.tmp 6]) := by kernel_rfl
theorem spec_l01Table (p n' : Int) (t : Nat → Int) (H : Hp) (n : Nat) (ht : isBy 512 t) :
    FnS Tryz.prog 91 [i64 p, i64 n', .arr 512 (bys t)] H n (fun r H' _ => r = bl (tb (isTab p n' t)) ∧ H' = H) := by
  have hk : ∀ i, i < 512 → bys t (0 + i) = .int .u8 (t i) := fun i _ => by rw [Nat.zero_add]; rfl
  refine FnS.of_body Tryz.func91 tr91 (by simp) (fun hf => ?_)
  dsimp only [argEnv]
  unfold ir91
  (repeat first|refine zG ?_|(refine LS.nilO ?_;intro nq hnq hltq;try refine zU ?_)|(refine MS.new ?_;intro bq hbq hbqf;try refine zU ?_)|(refine MS.nil ?_;intro nq hnq hltq;have hlq:=hltq _ _ (Hp.get_eq _ _ _);clear hltq;try refine zU ?_)|(refine LS.nilQ ?_;try with_reducible intro nq hnq;try refine zU ?_))
  refine CS.iter 8 (fun i => [(7, i64 i), (5, ptr n 0), (0, i64 p), (1, i64 n')]) (fun _ => (n, ⟨512, bys t, 33⟩) :: H) (fun i => ∀ j : Nat, j < i → isLin p n' n' (fun x => t (64 * j + x)) ∧ (n' ≤ j → ∀ x, x < 64 → t (64 * j + x) = 0)) (by (repeat first | exact trivial | refine And.intro rfl ?_)) (Drops.refl _ _) (fun j hj => by omega) ?_
  intro i n1 hi hn hJ
  (repeat first|refine zG ?_|(refine LS.nilO ?_;intro nq hnq hltq;try refine zU ?_)|(refine MS.new ?_;intro bq hbq hbqf;try refine zU ?_)|(refine MS.nil ?_;intro nq hnq hltq;have hlq:=hltq _ _ (Hp.get_eq _ _ _);clear hltq;try refine zU ?_)|(refine LS.nilQ ?_;try with_reducible intro nq hnq;try refine zU ?_))
  refine zI ?_ ?_<;>intro h1
  · (repeat first|refine zG ?_|(refine LS.nilO ?_;intro nq hnq hltq;try refine zU ?_)|(refine MS.new ?_;intro bq hbq hbqf;try refine zU ?_)|(refine MS.nil ?_;intro nq hnq hltq;have hlq:=hltq _ _ (Hp.get_eq _ _ _);clear hltq;try refine zU ?_)|(refine LS.nilQ ?_;try with_reducible intro nq hnq;try refine zU ?_))
    refine RS.call rfl ((spec_l01Linear p n' (fun x => t (64 * i + x)) _ _ (fun x hx => ht _ (by omega))).mono ?_)
    rintro r H' n2 hn2 ⟨rfl, rfl⟩
    (repeat first|refine zG ?_|(refine LS.nilO ?_;intro nq hnq hltq;try refine zU ?_)|(refine MS.new ?_;intro bq hbq hbqf;try refine zU ?_)|(refine MS.nil ?_;intro nq hnq hltq;have hlq:=hltq _ _ (Hp.get_eq _ _ _);clear hltq;try refine zU ?_)|(refine LS.nilQ ?_;try with_reducible intro nq hnq;try refine zU ?_))
    refine RS.sp (t := 19) rfl (fun h2 => ?_) (fun h2 => ?_) <;> (try simp only [tb_eq, tb_eqF, decide_eq_true_eq, decide_eq_false_iff_not, beq_iff_eq, bne_iff_ne, ne_eq, Decidable.not_not, beq_eq_false_iff_ne, bne_eq_false_iff_eq, Bool.not_eq_true', Bool.not_eq_false', Bool.not_eq_eq_eq_not, Bool.not_true, Bool.not_false] at h2)
    · (repeat first|refine zG ?_|(refine LS.nilO ?_;intro nq hnq hltq;try refine zU ?_)|(refine MS.new ?_;intro bq hbq hbqf;try refine zU ?_)|(refine MS.nil ?_;intro nq hnq hltq;have hlq:=hltq _ _ (Hp.get_eq _ _ _);clear hltq;try refine zU ?_)|(refine LS.nilQ ?_;try with_reducible intro nq hnq;try refine zU ?_))
      exact ⟨_, H, rfl, by exact zD, by rw [tb_false (fun h => h2 (h i (by omega)).1)], rfl⟩
    · (repeat first|refine zG ?_|(refine LS.nilO ?_;intro nq hnq hltq;try refine zU ?_)|(refine MS.new ?_;intro bq hbq hbqf;try refine zU ?_)|(refine MS.nil ?_;intro nq hnq hltq;have hlq:=hltq _ _ (Hp.get_eq _ _ _);clear hltq;try refine zU ?_)|(refine LS.nilQ ?_;try with_reducible intro nq hnq;try refine zU ?_))
      refine RS.sp (t := 23) rfl (fun h3 => ?_) (fun h3 => ?_) <;> (try simp only [tb_eq, tb_eqF, decide_eq_true_eq, decide_eq_false_iff_not, beq_iff_eq, bne_iff_ne, ne_eq, Decidable.not_not, beq_eq_false_iff_ne, bne_eq_false_iff_eq, Bool.not_eq_true', Bool.not_eq_false', Bool.not_eq_eq_eq_not, Bool.not_true, Bool.not_false] at h3)
      · (repeat first|refine zG ?_|(refine LS.nilO ?_;intro nq hnq hltq;try refine zU ?_)|(refine MS.new ?_;intro bq hbq hbqf;try refine zU ?_)|(refine MS.nil ?_;intro nq hnq hltq;have hlq:=hltq _ _ (Hp.get_eq _ _ _);clear hltq;try refine zU ?_)|(refine LS.nilQ ?_;try with_reducible intro nq hnq;try refine zU ?_))
        refine zI ?_ ?_<;>intro h4
        · (repeat first|refine zG ?_|(refine LS.nilO ?_;intro nq hnq hltq;try refine zU ?_)|(refine MS.new ?_;intro bq hbq hbqf;try refine zU ?_)|(refine MS.nil ?_;intro nq hnq hltq;have hlq:=hltq _ _ (Hp.get_eq _ _ _);clear hltq;try refine zU ?_)|(refine LS.nilQ ?_;try with_reducible intro nq hnq;try refine zU ?_))
          exact ⟨_, H, rfl, by exact zD, by rw [tb_false (fun h => h4 (fun x hx => (h i (by omega)).2 (by omega) x hx))], rfl⟩
        · (repeat first|refine zG ?_|(refine LS.nilO ?_;intro nq hnq hltq;try refine zU ?_)|(refine MS.new ?_;intro bq hbq hbqf;try refine zU ?_)|(refine MS.nil ?_;intro nq hnq hltq;have hlq:=hltq _ _ (Hp.get_eq _ _ _);clear hltq;try refine zU ?_)|(refine LS.nilQ ?_;try with_reducible intro nq hnq;try refine zU ?_))
          refine ⟨by omega, by (repeat first | exact trivial | refine And.intro rfl ?_), by exact zD, fun j hj => ?_⟩
          by_cases e : j < i
          · exact hJ j e
          · have : j = i := by omega
            subst this; exact ⟨h2, fun _ => h4⟩
      · (repeat first|refine zG ?_|(refine LS.nilO ?_;intro nq hnq hltq;try refine zU ?_)|(refine MS.new ?_;intro bq hbq hbqf;try refine zU ?_)|(refine MS.nil ?_;intro nq hnq hltq;have hlq:=hltq _ _ (Hp.get_eq _ _ _);clear hltq;try refine zU ?_)|(refine LS.nilQ ?_;try with_reducible intro nq hnq;try refine zU ?_))
        refine ⟨by omega, by (repeat first | exact trivial | refine And.intro rfl ?_), by exact zD, fun j hj => ?_⟩
        by_cases e : j < i
        · exact hJ j e
        · have : j = i := by omega
          subst this; exact ⟨h2, fun h => by omega⟩
  · (repeat first|refine zG ?_|(refine LS.nilO ?_;intro nq hnq hltq;try refine zU ?_)|(refine MS.new ?_;intro bq hbq hbqf;try refine zU ?_)|(refine MS.nil ?_;intro nq hnq hltq;have hlq:=hltq _ _ (Hp.get_eq _ _ _);clear hltq;try refine zU ?_)|(refine LS.nilQ ?_;try with_reducible intro nq hnq;try refine zU ?_))
    exact ⟨_, H, rfl, by exact zD, by rw [tb_true (show isTab p n' t from fun j hj => hJ j (by omega))], rfl⟩
/-- (impl.field).times -/
def ir122 : Cd := (.seq (.reg [⟨some 3,none,.box 85 (.t 0)⟩,⟨some 5,none,.box 27 (.t 2)⟩,⟨some 6,none,.new 27 [(8,(.int .u8 0))]⟩]) (.seq (.reg [⟨some 8,none,.build 8 [(8,(.int .u8 0))] []⟩,⟨some 7,none,.new 27 [(8,(.int .u8 0))]⟩,⟨none,none,.st 8 (.t 7) (.t 8)⟩]) (.seq (.reg [⟨some 9,none,.ld (some 2) (.t 3)⟩,⟨some 10,none,.mov (.t 1)⟩,⟨some 11,none,.ld (some 8) (.t 5)⟩,⟨some 12,none,.call 50 [(.t 9),(.t 7),(.t 10),(.t 11)]⟩]) (.seq (.reg [⟨some 13,none,.ld (some 8) (.t 7)⟩,⟨none,none,.st 8 (.t 6) (.t 13)⟩]) .ret))))
set_option maxRecDepth 100000 in
theorem tr122 : trFn Tryz.prog Tryz.f122 = some (14, ir122, [.cell (some 8) 6]) := by kernel_rfl
theorem field_times (p n' k : Int) (w : Nat → Int) (H : Hp) (n : Nat) (hp : 2 ≤ p ∧ p ≤ 31) (hw : isBy 8 w) (hk : 0 ≤ k ∧ k ≤ 100000) :
    FnS Tryz.prog 122 [fld p n', i64 k, .arr 8 (bys w)] H n (fun r H' _ => r = .arr 8 (bys (pl p (fun _ => 0) k w)) ∧ H' = H) := by
  refine FnS.of_body Tryz.func122 tr122 (by simp) (fun hf => ?_)
  dsimp only [argEnv]
  unfold ir122
  (repeat first|refine zG ?_|(refine LS.nilO ?_;intro nq hnq hltq;try refine zU ?_)|(refine MS.new ?_;intro bq hbq hbqf;try refine zU ?_)|(refine MS.nil ?_;intro nq hnq hltq;have hlq:=hltq _ _ (Hp.get_eq _ _ _);clear hltq;try refine zU ?_)|(refine LS.nilQ ?_;try with_reducible intro nq hnq;try refine zU ?_))
  refine RS.call rfl ((field_plus p n' k (fun _ => 0) w (n + 3) 0 ⟨8, fun _ => .int .u8 0, 27⟩ _ _ hp (by exact zH) (by simp) (fun _ _ => rfl) (isRes_zero hp.1 8) hw hk).mono ?_)
  rintro r H' n2 hn2 ⟨rfl, rfl⟩
  simp (disch := omega) only [Hp.set_eq, Hp.set_ne]
  (repeat first|refine zG ?_|(refine LS.nilO ?_;intro nq hnq hltq;try refine zU ?_)|(refine MS.new ?_;intro bq hbq hbqf;try refine zU ?_)|(refine MS.nil ?_;intro nq hnq hltq;have hlq:=hltq _ _ (Hp.get_eq _ _ _);clear hltq;try refine zU ?_)|(refine LS.nilQ ?_;try with_reducible intro nq hnq;try refine zU ?_))
  exact ⟨.arr 8 (bys (pl p (fun _ => 0) k w)), H, conc_arr (fun q hq => by simp only [Nat.zero_add]; exact splice_all _ _ _ _ hq), by exact zD, rfl, rfl⟩
/-- (impl.field).apply -/
def ir53 : Cd := (.seq (.reg [⟨some 3,none,.box 85 (.t 0)⟩,⟨some 5,none,.box 27 (.t 2)⟩,⟨some 6,none,.new 27 [(8,(.int .u8 0))]⟩]) (.seq (.reg [⟨some 10,none,.build 8 [(8,(.int .u8 0))] []⟩,⟨some 7,none,.new 27 [(8,(.int .u8 0))]⟩,⟨none,none,.st 8 (.t 7) (.t 10)⟩]) (.seq (.seq (.reg [⟨some 11,none,.ld (some 8) (.t 5)⟩,⟨some 12,none,.mov (.c (.int .i64 0))⟩]) (.block 0 (.loop (.seq (.reg [⟨some 13,none,.bin .lss (.t 12) (.c (.int .i64 8))⟩]) (.seq (.cond (.t 13) .skip (.exit 0)) (.seq (.block 1 (.seq (.reg [⟨some 14,none,.mov (.t 12)⟩,⟨some 15,none,.ix 8 1 none (.t 11) (.t 12)⟩,⟨some 8,none,.mov (.t 14)⟩,⟨some 9,none,.mov (.t 15)⟩]) (.drw true [8] [⟨some 16,none,.ld (some 2) (.t 3)⟩,⟨some 17,none,.mov (.t 9)⟩,⟨some 18,none,.cv .i64 (.t 17)⟩,⟨some 19,none,.mov (.t 1)⟩,⟨some 20,none,.mov (.t 8)⟩,⟨some 21,none,.ck (.t 19)⟩,⟨some 22,none,.ia 8 8 (.t 21) (.t 20)⟩,⟨some 23,none,.ld (some 8) (.t 22)⟩,⟨some 24,none,.call 50 [(.t 16),(.t 7),(.t 18),(.t 23)]⟩]))) (.reg [⟨some 25,none,.bin .add (.t 12) (.c (.int .i64 1))⟩,⟨some 12,none,.mov (.t 25)⟩]))))))) (.seq (.reg [⟨some 26,none,.ld (some 8) (.t 7)⟩,⟨none,none,.st 8 (.t 6) (.t 26)⟩]) .ret))))
set_option maxRecDepth 100000 in
theorem tr53 : trFn Tryz.prog Tryz.f53 = some (27, ir53, [.cell (some 8) 6]) := by kernel_rfl
theorem field_apply (p n' : Int) (l v : Nat → Int) (b o : Nat) (K : Blk) (H : Hp) (n : Nat) (hp : 2 ≤ p ∧ p ≤ 31) (hb : H.get b = some K) (ho : o + 64 ≤ K.size)
    (hc : ∀ i, i < 64 → K.c (o + i) = .int .u8 (l i)) (hl : isBy 64 l) (hv : isBy 8 v) :
    FnS Tryz.prog 53 [fld p n', ptr b o, .arr 8 (bys v)] H n (fun r H' _ => r = .arr 8 (bys (app p l v)) ∧ H' = H) := by
  refine FnS.of_body Tryz.func53 tr53 (by simp) (fun hf => ?_)
  dsimp only [argEnv]
  unfold ir53
  have hbn : b < n := by
    rcases Nat.lt_or_ge b n with h | h
    · exact h
    · rw [hf b h] at hb; cases hb
  (repeat first|refine zG ?_|(refine LS.nilO ?_;intro nq hnq hltq;try refine zU ?_)|(refine MS.new ?_;intro bq hbq hbqf;try refine zU ?_)|(refine MS.nil ?_;intro nq hnq hltq;have hlq:=hltq _ _ (Hp.get_eq _ _ _);clear hltq;try refine zU ?_)|(refine LS.nilQ ?_;try with_reducible intro nq hnq;try refine zU ?_))
  refine CS.iter 8 (fun i => [(12, i64 i), (11, .arr 8 (bys v)), (1, ptr b o), (3, ptr n 0), (6, ptr (n + 2) 0), (7, ptr (n + 3) 0)])
    (fun i => (n + 3, ⟨8, bys (apk p l v i), 27⟩) :: (n + 2, ⟨8, bys (fun _ => 0), 27⟩) :: (n + 1, ⟨8, bys v, 27⟩) :: (n, ⟨2, fldC p n', 85⟩) :: H) (fun _ => True) (by (repeat first | exact trivial | refine And.intro rfl ?_))
    (Drops.keepc rfl rfl (fun _ _ => by rw [apk_zero]; rfl) (Drops.keepc rfl rfl (fun _ _ => rfl) (Drops.refl _ _))) trivial ?_
  intro i n1 hi hn _
  (repeat first|refine zG ?_|(refine LS.nilO ?_;intro nq hnq hltq;try refine zU ?_)|(refine MS.new ?_;intro bq hbq hbqf;try refine zU ?_)|(refine MS.nil ?_;intro nq hnq hltq;have hlq:=hltq _ _ (Hp.get_eq _ _ _);clear hltq;try refine zU ?_)|(refine LS.nilQ ?_;try with_reducible intro nq hnq;try refine zU ?_))
  refine zI ?_ ?_<;>intro h1
  · have hvi := hv i (by omega)
    (repeat first|refine zG ?_|(refine LS.nilO ?_;intro nq hnq hltq;try refine zU ?_)|(refine MS.new ?_;intro bq hbq hbqf;try refine zU ?_)|(refine MS.nil ?_;intro nq hnq hltq;have hlq:=hltq _ _ (Hp.get_eq _ _ _);clear hltq;try refine zU ?_)|(refine LS.nilQ ?_;try with_reducible intro nq hnq;try refine zU ?_))
    refine RS.call rfl ((field_plus p n' (v i) (apk p l v i) (fun x => l (8 * i + x)) (n + 3) 0 ⟨8, bys (apk p l v i), 27⟩ _ _ hp (by exact zH) (by simp) (fun _ _ => by rw [Nat.zero_add]; rfl) (apk_res hp.1 _ _ _ _) (fun x hx => hl _ (by omega)) (by omega)).mono ?_)
    rintro r H' n2 hn2 ⟨rfl, rfl⟩
    simp (disch := omega) only [Hp.set_eq, Hp.set_ne]
    (repeat first|refine zG ?_|(refine LS.nilO ?_;intro nq hnq hltq;try refine zU ?_)|(refine MS.new ?_;intro bq hbq hbqf;try refine zU ?_)|(refine MS.nil ?_;intro nq hnq hltq;have hlq:=hltq _ _ (Hp.get_eq _ _ _);clear hltq;try refine zU ?_)|(refine LS.nilQ ?_;try with_reducible intro nq hnq;try refine zU ?_))
    exact ⟨by omega, by (repeat first | exact trivial | refine And.intro rfl ?_), Drops.keepc rfl rfl (fun q hq => (splice_all _ _ 8 q hq).trans (by rw [apk_step])) (Drops.refl _ _), trivial⟩
  · have : i = 8 := by omega
    subst this
    (repeat first|refine zG ?_|(refine LS.nilO ?_;intro nq hnq hltq;try refine zU ?_)|(refine MS.new ?_;intro bq hbq hbqf;try refine zU ?_)|(refine MS.nil ?_;intro nq hnq hltq;have hlq:=hltq _ _ (Hp.get_eq _ _ _);clear hltq;try refine zU ?_)|(refine LS.nilQ ?_;try with_reducible intro nq hnq;try refine zU ?_))
    exact ⟨.arr 8 (bys (app p l v)), H, conc_arr (fun q hq => by simp only [Nat.zero_add]; rfl), by exact zD, rfl, rfl⟩
/-- (*impl.Algebra).product -/
def ir124 : Cd := (.seq (.reg [⟨some 4,none,.box 27 (.t 1)⟩,⟨some 5,none,.box 27 (.t 2)⟩,⟨some 6,none,.new 27 [(8,(.int .u8 0))]⟩]) (.seq (.reg [⟨some 11,none,.mov (.t 0)⟩,⟨some 12,none,.call 137 [(.t 11)]⟩,⟨some 13,none,.build 8 [(8,(.int .u8 0))] []⟩,⟨some 7,none,.new 85 [(2,(.int .i64 0))]⟩,⟨some 8,none,.new 27 [(8,(.int .u8 0))]⟩,⟨none,none,.st 2 (.t 7) (.t 12)⟩,⟨none,none,.st 8 (.t 8) (.t 13)⟩]) (.seq (.seq (.reg [⟨some 14,none,.fa 1 (.t 7)⟩,⟨some 15,none,.ld none (.t 14)⟩,⟨some 16,none,.mov (.c (.int .i64 0))⟩]) (.block 0 (.loop (.seq (.reg [⟨some 17,none,.bin .lss (.t 16) (.t 15)⟩]) (.seq (.cond (.t 17) .skip (.exit 0)) (.seq (.block 1 (.seq (.reg [⟨some 18,none,.mov (.t 16)⟩,⟨some 9,none,.mov (.t 18)⟩]) (.seq (.seq (.reg [⟨some 19,none,.mov (.t 9)⟩,⟨some 20,none,.ia 8 1 (.t 4) (.t 19)⟩,⟨some 21,none,.ld none (.t 20)⟩,⟨some 22,none,.bin .eql (.t 21) (.c (.int .u8 0))⟩]) (.cond (.t 22) (.exit 1) .skip)) (.seq (.reg [⟨some 23,none,.fa 1 (.t 7)⟩,⟨some 24,none,.ld none (.t 23)⟩,⟨some 25,none,.mov (.c (.int .i64 0))⟩]) (.block 2 (.loop (.seq (.reg [⟨some 26,none,.bin .lss (.t 25) (.t 24)⟩]) (.seq (.cond (.t 26) .skip (.exit 2)) (.seq (.block 3 (.seq (.reg [⟨some 27,none,.mov (.t 25)⟩,⟨some 10,none,.mov (.t 27)⟩]) (.drw true [18] [⟨some 28,none,.ld (some 2) (.t 7)⟩,⟨some 29,none,.mov (.t 9)⟩,⟨some 30,none,.ia 8 1 (.t 4) (.t 29)⟩,⟨some 31,none,.ld none (.t 30)⟩,⟨some 32,none,.cv .i64 (.t 31)⟩,⟨some 33,none,.mov (.t 10)⟩,⟨some 34,none,.ia 8 1 (.t 5) (.t 33)⟩,⟨some 35,none,.ld none (.t 34)⟩,⟨some 36,none,.cv .i64 (.t 35)⟩,⟨some 37,none,.bin .mul (.t 32) (.t 36)⟩,⟨some 38,none,.mov (.t 0)⟩,⟨some 39,none,.mov (.t 9)⟩,⟨some 40,none,.mov (.t 10)⟩,⟨some 41,none,.ck (.t 38)⟩,⟨some 42,none,.fa 10 (.t 41)⟩,⟨some 43,none,.ia 8 64 (.t 42) (.t 39)⟩,⟨some 44,none,.ia 8 8 (.t 43) (.t 40)⟩,⟨some 45,none,.ld (some 8) (.t 44)⟩,⟨some 46,none,.call 50 [(.t 28),(.t 8),(.t 37),(.t 45)]⟩]))) (.reg [⟨some 47,none,.bin .add (.t 25) (.c (.int .i64 1))⟩,⟨some 25,none,.mov (.t 47)⟩])))))))))) (.reg [⟨some 48,none,.bin .add (.t 16) (.c (.int .i64 1))⟩,⟨some 16,none,.mov (.t 48)⟩]))))))) (.seq (.reg [⟨some 49,none,.ld (some 8) (.t 8)⟩,⟨none,none,.st 8 (.t 6) (.t 49)⟩]) .ret))))
set_option maxRecDepth 100000 in
theorem tr124 : trFn Tryz.prog Tryz.f124 = some (50, ir124, [.cell (some 8) 6]) := by kernel_rfl
theorem Algebra_product (p : Int) (a : Nat) (m v w : Nat → Int) (b : Nat) (K : Blk) (H : Hp) (n : Nat) (hp : 2 ≤ p ∧ p ≤ 31) (ha : a ≤ 8) (hb : H.get b = some K) (hsz : K.size = 522)
    (h0 : K.c 0 = .int .i64 p) (h1 : K.c 1 = .int .i64 a)
    (hK : ∀ q, q < 512 → K.c (10 + q) = .int .u8 (m q)) (hm : isBy 512 m) (hv : isBy 8 v) (hw : isBy 8 w) :
    FnS Tryz.prog 124 [ptr b 0, .arr 8 (bys v), .arr 8 (bys w)] H n (fun r H' _ => r = .arr 8 (bys (pr p m v w a)) ∧ H' = H) := by
  refine FnS.of_body Tryz.func124 tr124 (by simp) (fun hf => ?_)
  dsimp only [argEnv]
  unfold ir124
  have hbn : b < n := by
    rcases Nat.lt_or_ge b n with h | h
    · exact h
    · rw [hf b h] at hb; cases hb
  (repeat first|refine zG ?_|(refine LS.nilO ?_;intro nq hnq hltq;try refine zU ?_)|(refine MS.new ?_;intro bq hbq hbqf;try refine zU ?_)|(refine MS.nil ?_;intro nq hnq hltq;have hlq:=hltq _ _ (Hp.get_eq _ _ _);clear hltq;try refine zU ?_)|(refine LS.nilQ ?_;try with_reducible intro nq hnq;try refine zU ?_))
  refine RS.call rfl ((Algebra_field p a b K _ _ (by exact zH) hsz h0 h1 (by omega)).mono ?_)
  rintro r H' n2 hn2 ⟨rfl, rfl⟩
  (repeat first|refine zG ?_|(refine LS.nilO ?_;intro nq hnq hltq;try refine zU ?_)|(refine MS.new ?_;intro bq hbq hbqf;try refine zU ?_)|(refine MS.nil ?_;intro nq hnq hltq;have hlq:=hltq _ _ (Hp.get_eq _ _ _);clear hltq;try refine zU ?_)|(refine LS.nilQ ?_;try with_reducible intro nq hnq;try refine zU ?_))
  refine CS.iter a (fun i => [(16, i64 i), (15, i64 a), (0, ptr b 0), (4, ptr n 0), (5, ptr (n + 1) 0), (6, ptr (n + 2) 0), (7, ptr n2 0), (8, ptr (n2 + 1) 0)])
    (fun i => (n2 + 1, ⟨8, bys (pk p m v w a i 0), 27⟩) :: (n2, ⟨2, fldC p a, 85⟩) :: (n + 2, ⟨8, bys (fun _ => 0), 27⟩) :: (n + 1, ⟨8, bys w, 27⟩) :: (n, ⟨8, bys v, 27⟩) :: H) (fun _ => True) (by (repeat first | exact trivial | refine And.intro rfl ?_))
    (Drops.keepc rfl rfl (fun _ _ => by rw [pk_zero]; rfl) (Drops.keepc rfl rfl (fun _ _ => rfl) (Drops.keepc rfl rfl (fun _ _ => rfl) (Drops.refl _ _)))) trivial ?_
  intro i n3 hi hn _
  (repeat first|refine zG ?_|(refine LS.nilO ?_;intro nq hnq hltq;try refine zU ?_)|(refine MS.new ?_;intro bq hbq hbqf;try refine zU ?_)|(refine MS.nil ?_;intro nq hnq hltq;have hlq:=hltq _ _ (Hp.get_eq _ _ _);clear hltq;try refine zU ?_)|(refine LS.nilQ ?_;try with_reducible intro nq hnq;try refine zU ?_))
  refine zI ?_ ?_<;>intro h2
  · have hvi := hv i (by omega)
    (repeat first|refine zG ?_|(refine LS.nilO ?_;intro nq hnq hltq;try refine zU ?_)|(refine MS.new ?_;intro bq hbq hbqf;try refine zU ?_)|(refine MS.nil ?_;intro nq hnq hltq;have hlq:=hltq _ _ (Hp.get_eq _ _ _);clear hltq;try refine zU ?_)|(refine LS.nilQ ?_;try with_reducible intro nq hnq;try refine zU ?_))
    refine zI ?_ ?_<;>intro h3
    · (repeat first|refine zG ?_|(refine LS.nilO ?_;intro nq hnq hltq;try refine zU ?_)|(refine MS.new ?_;intro bq hbq hbqf;try refine zU ?_)|(refine MS.nil ?_;intro nq hnq hltq;have hlq:=hltq _ _ (Hp.get_eq _ _ _);clear hltq;try refine zU ?_)|(refine LS.nilQ ?_;try with_reducible intro nq hnq;try refine zU ?_))
      exact ⟨by omega, by (repeat first | exact trivial | refine And.intro rfl ?_), by rw [pk_skip h3]; exact Drops.refl _ _, trivial⟩
    · (repeat first|refine zG ?_|(refine LS.nilO ?_;intro nq hnq hltq;try refine zU ?_)|(refine MS.new ?_;intro bq hbq hbqf;try refine zU ?_)|(refine MS.nil ?_;intro nq hnq hltq;have hlq:=hltq _ _ (Hp.get_eq _ _ _);clear hltq;try refine zU ?_)|(refine LS.nilQ ?_;try with_reducible intro nq hnq;try refine zU ?_))
      refine CS.iter a (fun j => [(25, i64 j), (24, i64 a), (9, i64 i), (16, i64 i), (15, i64 a), (0, ptr b 0), (4, ptr n 0), (5, ptr (n + 1) 0), (6, ptr (n + 2) 0), (7, ptr n2 0), (8, ptr (n2 + 1) 0)])
        (fun j => (n2 + 1, ⟨8, bys (pk p m v w a i j), 27⟩) :: (n2, ⟨2, fldC p a, 85⟩) :: (n + 2, ⟨8, bys (fun _ => 0), 27⟩) :: (n + 1, ⟨8, bys w, 27⟩) :: (n, ⟨8, bys v, 27⟩) :: H) (fun _ => True) (by (repeat first | exact trivial | refine And.intro rfl ?_))
        (Drops.refl _ _) trivial ?_
      intro j n4 hj hn4 _
      (repeat first|refine zG ?_|(refine LS.nilO ?_;intro nq hnq hltq;try refine zU ?_)|(refine MS.new ?_;intro bq hbq hbqf;try refine zU ?_)|(refine MS.nil ?_;intro nq hnq hltq;have hlq:=hltq _ _ (Hp.get_eq _ _ _);clear hltq;try refine zU ?_)|(refine LS.nilQ ?_;try with_reducible intro nq hnq;try refine zU ?_))
      refine zI ?_ ?_<;>intro h4
      · have hwj := hw j (by omega)
        have hvw := mulB hvi.1 hvi.2 hwj.1 hwj.2
        (repeat first|refine zG ?_|(refine LS.nilO ?_;intro nq hnq hltq;try refine zU ?_)|(refine MS.new ?_;intro bq hbq hbqf;try refine zU ?_)|(refine MS.nil ?_;intro nq hnq hltq;have hlq:=hltq _ _ (Hp.get_eq _ _ _);clear hltq;try refine zU ?_)|(refine LS.nilQ ?_;try with_reducible intro nq hnq;try refine zU ?_))
        refine RS.call rfl ((field_plus p a (v i * w j) (pk p m v w a i j) (fun x => m (64 * i + 8 * j + x)) (n2 + 1) 0 ⟨8, bys (pk p m v w a i j), 27⟩ _ _ hp (by exact zH) (by simp) (fun _ _ => by rw [Nat.zero_add]; rfl) (pk_res hp.1 _ _ _ _ _ _ _) (fun x hx => hm _ (by omega)) (by omega)).mono ?_)
        rintro r H' n5 hn5 ⟨rfl, rfl⟩
        simp (disch := omega) only [Hp.set_eq, Hp.set_ne]
        (repeat first|refine zG ?_|(refine LS.nilO ?_;intro nq hnq hltq;try refine zU ?_)|(refine MS.new ?_;intro bq hbq hbqf;try refine zU ?_)|(refine MS.nil ?_;intro nq hnq hltq;have hlq:=hltq _ _ (Hp.get_eq _ _ _);clear hltq;try refine zU ?_)|(refine LS.nilQ ?_;try with_reducible intro nq hnq;try refine zU ?_))
        exact ⟨by omega, by (repeat first | exact trivial | refine And.intro rfl ?_), Drops.keepc rfl rfl (fun q hq => (splice_all _ _ 8 q hq).trans (by rw [pk_step])) (Drops.refl _ _), trivial⟩
      · have : j = a := by omega
        subst this
        (repeat first|refine zG ?_|(refine LS.nilO ?_;intro nq hnq hltq;try refine zU ?_)|(refine MS.new ?_;intro bq hbq hbqf;try refine zU ?_)|(refine MS.nil ?_;intro nq hnq hltq;have hlq:=hltq _ _ (Hp.get_eq _ _ _);clear hltq;try refine zU ?_)|(refine LS.nilQ ?_;try with_reducible intro nq hnq;try refine zU ?_))
        exact ⟨by omega, by (repeat first | exact trivial | refine And.intro rfl ?_), by rw [pk_row]; exact Drops.refl _ _, trivial⟩
  · have : i = a := by omega
    subst this
    (repeat first|refine zG ?_|(refine LS.nilO ?_;intro nq hnq hltq;try refine zU ?_)|(refine MS.new ?_;intro bq hbq hbqf;try refine zU ?_)|(refine MS.nil ?_;intro nq hnq hltq;have hlq:=hltq _ _ (Hp.get_eq _ _ _);clear hltq;try refine zU ?_)|(refine LS.nilQ ?_;try with_reducible intro nq hnq;try refine zU ?_))
    exact ⟨.arr 8 (bys (pr p m v w i)), _, conc_arr (fun q hq => by simp only [Nat.zero_add]; rfl), by exact zD, rfl, rfl⟩
/-- (*impl.Coalgebra).isCounit -/
def ir126 : Cd := (.seq (.reg [⟨some 2,none,.mov (.c (.bool false))⟩]) (.seq (.reg [⟨some 8,none,.mov (.t 0)⟩,⟨some 9,none,.call 138 [(.t 8)]⟩,⟨some 3,none,.new 85 [(2,(.int .i64 0))]⟩,⟨none,none,.st 2 (.t 3) (.t 9)⟩]) (.seq (.seq (.reg [⟨some 10,none,.fa 1 (.t 3)⟩,⟨some 11,none,.ld none (.t 10)⟩,⟨some 12,none,.mov (.c (.int .i64 0))⟩]) (.block 0 (.loop (.seq (.reg [⟨some 13,none,.bin .lss (.t 12) (.t 11)⟩]) (.seq (.cond (.t 13) .skip (.exit 0)) (.seq (.block 1 (.seq (.reg [⟨some 14,none,.mov (.t 12)⟩,⟨some 4,none,.mov (.t 14)⟩]) (.seq (.reg [⟨some 15,none,.build 8 [(8,(.int .u8 0))] []⟩,⟨some 16,none,.build 8 [(8,(.int .u8 0))] []⟩,⟨some 5,none,.new 27 [(8,(.int .u8 0))]⟩,⟨some 6,none,.new 27 [(8,(.int .u8 0))]⟩,⟨none,none,.st 8 (.t 5) (.t 15)⟩,⟨none,none,.st 8 (.t 6) (.t 16)⟩]) (.seq (.seq (.reg [⟨some 17,none,.fa 1 (.t 3)⟩,⟨some 18,none,.ld none (.t 17)⟩,⟨some 19,none,.mov (.c (.int .i64 0))⟩]) (.block 2 (.loop (.seq (.reg [⟨some 20,none,.bin .lss (.t 19) (.t 18)⟩]) (.seq (.cond (.t 20) .skip (.exit 2)) (.seq (.block 3 (.seq (.reg [⟨some 21,none,.mov (.t 19)⟩,⟨some 7,none,.mov (.t 21)⟩]) (.seq (.drw true [16] [⟨some 22,none,.ld (some 2) (.t 3)⟩,⟨some 23,none,.mov (.t 0)⟩,⟨some 24,none,.mov (.t 7)⟩,⟨some 25,none,.ck (.t 23)⟩,⟨some 26,none,.fa 2 (.t 25)⟩,⟨some 27,none,.ia 8 1 (.t 26) (.t 24)⟩,⟨some 28,none,.ld none (.t 27)⟩,⟨some 29,none,.cv .i64 (.t 28)⟩,⟨some 30,none,.mov (.t 0)⟩,⟨some 31,none,.mov (.t 4)⟩,⟨some 32,none,.mov (.t 7)⟩,⟨some 33,none,.ck (.t 30)⟩,⟨some 34,none,.fa 10 (.t 33)⟩,⟨some 35,none,.ia 8 64 (.t 34) (.t 31)⟩,⟨some 36,none,.ia 8 8 (.t 35) (.t 32)⟩,⟨some 37,none,.ld (some 8) (.t 36)⟩,⟨some 38,none,.call 50 [(.t 22),(.t 5),(.t 29),(.t 37)]⟩]) (.drw true [17] [⟨some 39,none,.mov (.t 7)⟩,⟨some 40,none,.ld (some 2) (.t 3)⟩,⟨some 41,none,.mov (.t 0)⟩,⟨some 42,none,.ck (.t 41)⟩,⟨some 43,none,.fa 2 (.t 42)⟩,⟨some 44,none,.ld (some 8) (.t 43)⟩,⟨some 45,none,.mov (.t 0)⟩,⟨some 46,none,.mov (.t 4)⟩,⟨some 47,none,.mov (.t 7)⟩,⟨some 48,none,.ck (.t 45)⟩,⟨some 49,none,.fa 10 (.t 48)⟩,⟨some 50,none,.ia 8 64 (.t 49) (.t 46)⟩,⟨some 51,none,.ia 8 8 (.t 50) (.t 47)⟩,⟨some 52,none,.ld (some 8) (.t 51)⟩,⟨some 53,none,.call 139 [(.t 40),(.t 44),(.t 52)]⟩,⟨some 54,none,.cv .u8 (.t 53)⟩,⟨some 55,none,.ia 8 1 (.t 6) (.t 39)⟩,⟨none,none,.st 1 (.t 55) (.t 54)⟩])))) (.reg [⟨some 56,none,.bin .add (.t 19) (.c (.int .i64 1))⟩,⟨some 19,none,.mov (.t 56)⟩]))))))) (.seq (.drw true [] [⟨some 57,none,.ld (some 8) (.t 5)⟩,⟨some 58,none,.mov (.t 4)⟩,⟨some 59,none,.call 34 [(.t 58)]⟩,⟨some 60,none,.eqa true 8 (.t 57) (.t 59)⟩,⟨some 61,none,.mov (.t 60)⟩,⟨some 62,(some (61,false)),.ld (some 8) (.t 6)⟩,⟨some 63,(some (61,false)),.mov (.t 4)⟩,⟨some 64,(some (61,false)),.call 34 [(.t 63)]⟩,⟨some 65,(some (61,false)),.eqa true 8 (.t 62) (.t 64)⟩,⟨some 66,none,.pick (.t 61) (.c (.bool true)) (.t 65)⟩]) (.cond (.t 66) (.seq (.reg [⟨some 2,none,.mov (.c (.bool false))⟩]) .ret) .skip)))))) (.reg [⟨some 67,none,.bin .add (.t 12) (.c (.int .i64 1))⟩,⟨some 12,none,.mov (.t 67)⟩]))))))) (.seq (.reg [⟨some 2,none,.mov (.c (.bool true))⟩]) .ret))))
set_option maxRecDepth 100000 in
theorem tr126 : trFn Tryz.prog Tryz.f126 = some (68, ir126, [.tmp 2]) := by kernel_rfl
theorem Coalgebra_isCounit (p : Int) (a : Nat) (e c : Nat → Int) (b : Nat) (K : Blk) (H : Hp) (n : Nat) (hp : 2 ≤ p ∧ p ≤ 31) (ha : a ≤ 8) (hb : H.get b = some K) (hsz : K.size = 522)
    (h0 : K.c 0 = .int .i64 p) (h1 : K.c 1 = .int .i64 a) (hE : ∀ q, q < 8 → K.c (2 + q) = .int .u8 (e q)) (hK : ∀ q, q < 512 → K.c (10 + q) = .int .u8 (c q)) (he : isBy 8 e) (hc : isBy 512 c) :
    FnS Tryz.prog 126 [ptr b 0] H n (fun r H' _ => r = bl (tb (counits p a e c)) ∧ H' = H) := by
  refine FnS.of_body Tryz.func126 tr126 (by simp) (fun hf => ?_)
  dsimp only [argEnv]
  unfold ir126
  have hbn := getlt hf hb
  (repeat first|refine zG ?_|(refine LS.nilO ?_;intro nq hnq hltq;try refine zU ?_)|(refine MS.new ?_;intro bq hbq hbqf;try refine zU ?_)|(refine MS.nil ?_;intro nq hnq hltq;have hlq:=hltq _ _ (Hp.get_eq _ _ _);clear hltq;try refine zU ?_)|(refine LS.nilQ ?_;try with_reducible intro nq hnq;try refine zU ?_))
  refine RS.call rfl ((Coalgebra_field p a b K _ _ (by exact zH) hsz h0 h1 (by omega)).mono ?_)
  rintro r H n2 hn2 ⟨rfl, rfl⟩
  (repeat first|refine zG ?_|(refine LS.nilO ?_;intro nq hnq hltq;try refine zU ?_)|(refine MS.new ?_;intro bq hbq hbqf;try refine zU ?_)|(refine MS.nil ?_;intro nq hnq hltq;have hlq:=hltq _ _ (Hp.get_eq _ _ _);clear hltq;try refine zU ?_)|(refine LS.nilQ ?_;try with_reducible intro nq hnq;try refine zU ?_))
  refine CS.iter a (fun i => [(12, i64 i), (11, i64 a), (3, ptr n2 0), (0, ptr b 0)]) (fun _ => (n2, ⟨2, fldC p a, 85⟩) :: H)
    (fun i => ∀ i' : Nat, i' < i → (∀ q, q < 8 → coL p e c i' a q = bas i' q) ∧ (∀ q, q < 8 → coR p e c i' a q = bas i' q)) (by (repeat first | exact trivial | refine And.intro rfl ?_)) (by exact zD) (fun _ h => by omega) ?_
  intro i n3 hi hn hJ
  (repeat first|refine zG ?_|(refine LS.nilO ?_;intro nq hnq hltq;try refine zU ?_)|(refine MS.new ?_;intro bq hbq hbqf;try refine zU ?_)|(refine MS.nil ?_;intro nq hnq hltq;have hlq:=hltq _ _ (Hp.get_eq _ _ _);clear hltq;try refine zU ?_)|(refine LS.nilQ ?_;try with_reducible intro nq hnq;try refine zU ?_))
  refine zI ?_ ?_<;>intro h2
  · (repeat first|refine zG ?_|(refine LS.nilO ?_;intro nq hnq hltq;try refine zU ?_)|(refine MS.new ?_;intro bq hbq hbqf;try refine zU ?_)|(refine MS.nil ?_;intro nq hnq hltq;have hlq:=hltq _ _ (Hp.get_eq _ _ _);clear hltq;try refine zU ?_)|(refine LS.nilQ ?_;try with_reducible intro nq hnq;try refine zU ?_))
    refine CS.iter a (fun j => [(19, i64 j), (18, i64 a), (4, i64 i), (5, ptr n3 0), (6, ptr (n3 + 1) 0), (12, i64 i), (11, i64 a), (3, ptr n2 0), (0, ptr b 0)])
      (fun j => (n3 + 1, ⟨8, bys (coR p e c i j), 27⟩) :: (n3, ⟨8, bys (coL p e c i j), 27⟩) :: (n2, ⟨2, fldC p a, 85⟩) :: H) (fun _ => True) (by (repeat first | exact trivial | refine And.intro rfl ?_))
      (Drops.keepc rfl rfl (fun _ _ => by rw [coR_zero]; rfl) (Drops.keepc rfl rfl (fun _ _ => by rw [coL_zero]; rfl) (Drops.refl _ _))) trivial ?_
    intro j n4 hj hn4 _
    (repeat first|refine zG ?_|(refine LS.nilO ?_;intro nq hnq hltq;try refine zU ?_)|(refine MS.new ?_;intro bq hbq hbqf;try refine zU ?_)|(refine MS.nil ?_;intro nq hnq hltq;have hlq:=hltq _ _ (Hp.get_eq _ _ _);clear hltq;try refine zU ?_)|(refine LS.nilQ ?_;try with_reducible intro nq hnq;try refine zU ?_))
    refine zI ?_ ?_<;>intro h3
    · have hej := he j (by omega)
      (repeat first|refine zG ?_|(refine LS.nilO ?_;intro nq hnq hltq;try refine zU ?_)|(refine MS.new ?_;intro bq hbq hbqf;try refine zU ?_)|(refine MS.nil ?_;intro nq hnq hltq;have hlq:=hltq _ _ (Hp.get_eq _ _ _);clear hltq;try refine zU ?_)|(refine LS.nilQ ?_;try with_reducible intro nq hnq;try refine zU ?_))
      refine RS.call rfl ((field_plus p a (e j) (coL p e c i j) (fun x => c (64 * i + 8 * j + x)) n3 0 ⟨8, bys (coL p e c i j), 27⟩ _ _ hp (by exact zH) (by simp) (fun _ _ => by rw [Nat.zero_add]; rfl) (coL_res hp.1 _ _ _ _ _) (fun x hx => hc _ (by omega)) (by omega)).mono ?_)
      rintro r H n5 hn5 ⟨rfl, rfl⟩
      simp (disch := omega) only [Hp.set_eq, Hp.set_ne]
      have hd := dotk_res hp.1 e (fun y => c (64 * i + 8 * j + y)) 8
      (repeat first|refine zG ?_|(refine LS.nilO ?_;intro nq hnq hltq;try refine zU ?_)|(refine MS.new ?_;intro bq hbq hbqf;try refine zU ?_)|(refine MS.nil ?_;intro nq hnq hltq;have hlq:=hltq _ _ (Hp.get_eq _ _ _);clear hltq;try refine zU ?_)|(refine LS.nilQ ?_;try with_reducible intro nq hnq;try refine zU ?_))
      refine LS.callQ (i64 (dotk p e (fun y => c (64 * i + 8 * j + y)) 8)) rfl (fun n' hn' => field_dot p a e (fun y => c (64 * i + 8 * j + y)) _ _ hp he (fun x hx => hc _ (by omega))) ?_
      (repeat first|refine zG ?_|(refine LS.nilO ?_;intro nq hnq hltq;try refine zU ?_)|(refine MS.new ?_;intro bq hbq hbqf;try refine zU ?_)|(refine MS.nil ?_;intro nq hnq hltq;have hlq:=hltq _ _ (Hp.get_eq _ _ _);clear hltq;try refine zU ?_)|(refine LS.nilQ ?_;try with_reducible intro nq hnq;try refine zU ?_))
      exact ⟨by omega, by (repeat first | exact trivial | refine And.intro rfl ?_), Drops.keepc rfl rfl (fun q hq => by simp only [put1, bys]; rw [← coR_step]; split <;> rfl) (Drops.keepc rfl rfl (fun q hq => (splice_all _ _ 8 q hq).trans (by rw [coL_step])) (Drops.refl _ _)), trivial⟩
    · have : j = a := by omega
      subst this
      (repeat first|refine zG ?_|(refine LS.nilO ?_;intro nq hnq hltq;try refine zU ?_)|(refine MS.new ?_;intro bq hbq hbqf;try refine zU ?_)|(refine MS.nil ?_;intro nq hnq hltq;have hlq:=hltq _ _ (Hp.get_eq _ _ _);clear hltq;try refine zU ?_)|(refine LS.nilQ ?_;try with_reducible intro nq hnq;try refine zU ?_))
      refine LS.callQ (.arr 8 (bys (bas i))) rfl (fun n' hn' => impl_basis i _ _ (by omega)) ?_
      (repeat first|refine zG ?_|(refine LS.nilO ?_;intro nq hnq hltq;try refine zU ?_)|(refine MS.new ?_;intro bq hbq hbqf;try refine zU ?_)|(refine MS.nil ?_;intro nq hnq hltq;have hlq:=hltq _ _ (Hp.get_eq _ _ _);clear hltq;try refine zU ?_)|(refine LS.nilQ ?_;try with_reducible intro nq hnq;try refine zU ?_))
      refine RS.sp (t := 61) rfl (fun h4 => ?_) (fun h4 => ?_) <;> (try simp only [tb_eq, tb_eqF, decide_eq_true_eq, decide_eq_false_iff_not, beq_iff_eq, bne_iff_ne, ne_eq, Decidable.not_not, beq_eq_false_iff_ne, bne_eq_false_iff_eq, Bool.not_eq_true', Bool.not_eq_false', Bool.not_eq_eq_eq_not, Bool.not_true, Bool.not_false] at h4)
      · (repeat first|refine zG ?_|(refine LS.nilO ?_;intro nq hnq hltq;try refine zU ?_)|(refine MS.new ?_;intro bq hbq hbqf;try refine zU ?_)|(refine MS.nil ?_;intro nq hnq hltq;have hlq:=hltq _ _ (Hp.get_eq _ _ _);clear hltq;try refine zU ?_)|(refine LS.nilQ ?_;try with_reducible intro nq hnq;try refine zU ?_))
        exact ⟨_, H, rfl, by exact zD, by rw [tb_false (fun h => h4 (h i (by omega)).1)], rfl⟩
      · (repeat first|refine zG ?_|(refine LS.nilO ?_;intro nq hnq hltq;try refine zU ?_)|(refine MS.new ?_;intro bq hbq hbqf;try refine zU ?_)|(refine MS.nil ?_;intro nq hnq hltq;have hlq:=hltq _ _ (Hp.get_eq _ _ _);clear hltq;try refine zU ?_)|(refine LS.nilQ ?_;try with_reducible intro nq hnq;try refine zU ?_))
        refine LS.callQ (.arr 8 (bys (bas i))) rfl (fun n' hn' => impl_basis i _ _ (by omega)) ?_
        (repeat first|refine zG ?_|(refine LS.nilO ?_;intro nq hnq hltq;try refine zU ?_)|(refine MS.new ?_;intro bq hbq hbqf;try refine zU ?_)|(refine MS.nil ?_;intro nq hnq hltq;have hlq:=hltq _ _ (Hp.get_eq _ _ _);clear hltq;try refine zU ?_)|(refine LS.nilQ ?_;try with_reducible intro nq hnq;try refine zU ?_))
        refine zI ?_ ?_<;>intro h5
        · (repeat first|refine zG ?_|(refine LS.nilO ?_;intro nq hnq hltq;try refine zU ?_)|(refine MS.new ?_;intro bq hbq hbqf;try refine zU ?_)|(refine MS.nil ?_;intro nq hnq hltq;have hlq:=hltq _ _ (Hp.get_eq _ _ _);clear hltq;try refine zU ?_)|(refine LS.nilQ ?_;try with_reducible intro nq hnq;try refine zU ?_))
          exact ⟨_, H, rfl, by exact zD, by rw [tb_false (fun h => h5 (h i (by omega)).2)], rfl⟩
        · (repeat first|refine zG ?_|(refine LS.nilO ?_;intro nq hnq hltq;try refine zU ?_)|(refine MS.new ?_;intro bq hbq hbqf;try refine zU ?_)|(refine MS.nil ?_;intro nq hnq hltq;have hlq:=hltq _ _ (Hp.get_eq _ _ _);clear hltq;try refine zU ?_)|(refine LS.nilQ ?_;try with_reducible intro nq hnq;try refine zU ?_))
          refine ⟨by omega, by (repeat first | exact trivial | refine And.intro rfl ?_), by exact zD, fun i' hi' => ?_⟩
          by_cases e : i' = i
          · subst e; exact ⟨h4, h5⟩
          · exact hJ i' (by omega)
  · have : i = a := by omega
    subst this
    (repeat first|refine zG ?_|(refine LS.nilO ?_;intro nq hnq hltq;try refine zU ?_)|(refine MS.new ?_;intro bq hbq hbqf;try refine zU ?_)|(refine MS.nil ?_;intro nq hnq hltq;have hlq:=hltq _ _ (Hp.get_eq _ _ _);clear hltq;try refine zU ?_)|(refine LS.nilQ ?_;try with_reducible intro nq hnq;try refine zU ?_))
    exact ⟨_, H, rfl, by exact zD, by rw [tb_true (show counits p i e c from fun i' h => hJ i' h)], rfl⟩
/-- (*impl.Hopf).tensor$1$1 -/
def ir66 : Cd := (.seq (.drw true [] [⟨some 14,none,.ld none (.t 3)⟩,⟨some 15,none,.ld none (.t 4)⟩,⟨some 16,none,.mov (.t 0)⟩,⟨some 17,none,.ck (.t 14)⟩,⟨some 18,none,.fa 10 (.t 17)⟩,⟨some 19,none,.ia 8 64 (.t 18) (.t 15)⟩,⟨some 20,none,.ia 8 8 (.t 19) (.t 16)⟩,⟨some 21,none,.ld (some 8) (.t 20)⟩,⟨some 22,none,.mov (.c (.int .i64 0))⟩]) (.block 0 (.loop (.seq (.reg [⟨some 23,none,.bin .lss (.t 22) (.c (.int .i64 8))⟩]) (.seq (.cond (.t 23) .skip (.exit 0)) (.seq (.block 1 (.seq (.reg [⟨some 24,none,.mov (.t 22)⟩,⟨some 25,none,.ix 8 1 none (.t 21) (.t 22)⟩,⟨some 12,none,.mov (.t 24)⟩,⟨some 13,none,.mov (.t 25)⟩]) (.drw true [20] [⟨some 26,none,.ld (some 2) (.t 5)⟩,⟨some 27,none,.mov (.t 12)⟩,⟨some 28,none,.ia 8 8 (.t 6) (.t 27)⟩,⟨some 29,none,.ld none (.t 7)⟩,⟨some 30,none,.mov (.t 2)⟩,⟨some 31,none,.bin .mul (.t 29) (.t 30)⟩,⟨some 32,none,.fa 0 (.t 5)⟩,⟨some 33,none,.ld none (.t 32)⟩,⟨some 34,none,.bin .rem (.t 31) (.t 33)⟩,⟨some 35,none,.mov (.t 13)⟩,⟨some 36,none,.cv .i64 (.t 35)⟩,⟨some 37,none,.bin .mul (.t 34) (.t 36)⟩,⟨some 38,none,.ld none (.t 3)⟩,⟨some 39,none,.ld none (.t 8)⟩,⟨some 40,none,.mov (.t 1)⟩,⟨some 41,none,.ck (.t 38)⟩,⟨some 42,none,.fa 10 (.t 41)⟩,⟨some 43,none,.ia 8 64 (.t 42) (.t 39)⟩,⟨some 44,none,.ia 8 8 (.t 43) (.t 40)⟩,⟨some 45,none,.ld (some 8) (.t 44)⟩,⟨some 46,none,.call 50 [(.t 26),(.t 28),(.t 37),(.t 45)]⟩]))) (.reg [⟨some 47,none,.bin .add (.t 22) (.c (.int .i64 1))⟩,⟨some 22,none,.mov (.t 47)⟩])))))))
set_option maxRecDepth 100000 in
theorem tr66 : trFn Tryz.prog Tryz.f66 = some (48, ir66, []) := by kernel_rfl
theorem Hopf_tensor_2 (h : HT) (a : Nat) (A B : Nat → Int) (t j k s l i' : Nat) (ht : t = 8 * j + k) (hj : j < 8) (hk : k < 8) (hs : s = 8 * l + i') (hl : l < 8) (hi' : i' < 8)
    (b bh bj bf bo bx bk : Nat) (K Kh Kj Kx Kk : Blk) (H : Hp) (n : Nat) (hS : HS h a) (hb : H.get b = some K) (hsz : K.size = 1106) (hK : h.At K.c) (hB : h.By) (hA : isBy 64 A) (hBb : isBy 64 B)
    (gh : H.get bh = some Kh) (sh : Kh.size = 1) (ch : Kh.c 0 = .ptr b 0) (gj : H.get bj = some Kj) (sj : Kj.size = 1) (cj : Kj.c 0 = .int .i64 j) (gf : H.get bf = some ⟨2, fldC h.p a, 85⟩)
    (go : H.get bo = some ⟨64, bys (tns h.p h.m A B t s), 29⟩) (gx : H.get bx = some Kx) (sx : Kx.size = 1) (cx : Kx.c 0 = .int .i64 (A t)) (gk : H.get bk = some Kk) (sk : Kk.size = 1) (ck : Kk.c 0 = .int .i64 k)
    (d1 : bo ≠ b) (d2 : bo ≠ bh) (d3 : bo ≠ bj) (d4 : bo ≠ bf) (d5 : bo ≠ bx) (d6 : bo ≠ bk) :
    FnS Tryz.prog 66 [i64 l, i64 i', i64 (B s), ptr bh 0, ptr bj 0, ptr bf 0, ptr bo 0, ptr bx 0, ptr bk 0] H n (fun _ H' _ => H' = H.set bo (bys (tns h.p h.m A B t (s + 1)))) := by
  have hp := hS.hp
  have ha := hS.ha
  have hk5 := hK.m
  have hs0 : H.set bo (bys (tns h.p h.m A B t s)) = H := Hp.set_self go
  have hAt := hA t (by omega)
  have hBs := hBb s (by omega)
  have hAB := mulB hAt.1 hAt.2 hBs.1 hBs.2
  have hr := modB (A t * B s) hp.1
  refine FnS.of_body Tryz.func66 tr66 (by simp) (fun hf => ?_)
  dsimp only [argEnv]
  unfold ir66
  have hbn := getlt hf hb
  (repeat first|refine zG ?_|(refine LS.nilO ?_;intro nq hnq hltq;try refine zU ?_)|(refine MS.new ?_;intro bq hbq hbqf;try refine zU ?_)|(refine MS.nil ?_;intro nq hnq hltq;have hlq:=hltq _ _ (Hp.get_eq _ _ _);clear hltq;try refine zU ?_)|(refine LS.nilQ ?_;try with_reducible intro nq hnq;try refine zU ?_))
  refine CS.iter 8 (fun i => [(22, i64 i), (21, .arr 8 (bys (fun x => h.m (64 * j + 8 * l + x)))), (1, i64 i'), (2, i64 (B s)), (3, ptr bh 0), (5, ptr bf 0), (6, ptr bo 0), (7, ptr bx 0), (8, ptr bk 0)])
    (fun i => H.set bo (bys (rowsTo (tns h.p h.m A B t s) (tns h.p h.m A B t (s + 1)) i))) (fun _ => True) (by (repeat first | exact trivial | refine And.intro rfl ?_)) (by rw [rowsTo_zero, hs0]; exact Drops.refl _ _) trivial ?_
  intro i n3 hi hn _
  (repeat first|refine zG ?_|(refine LS.nilO ?_;intro nq hnq hltq;try refine zU ?_)|(refine MS.new ?_;intro bq hbq hbqf;try refine zU ?_)|(refine MS.nil ?_;intro nq hnq hltq;have hlq:=hltq _ _ (Hp.get_eq _ _ _);clear hltq;try refine zU ?_)|(refine LS.nilQ ?_;try with_reducible intro nq hnq;try refine zU ?_))
  refine zI ?_ ?_<;>intro h2
  · have hz := hB.m (64 * j + 8 * l + i) (by omega)
    have hzz := mulB hr.1 (show _ ≤ 31 by omega) hz.1 hz.2
    (repeat first|refine zG ?_|(refine LS.nilO ?_;intro nq hnq hltq;try refine zU ?_)|(refine MS.new ?_;intro bq hbq hbqf;try refine zU ?_)|(refine MS.nil ?_;intro nq hnq hltq;have hlq:=hltq _ _ (Hp.get_eq _ _ _);clear hltq;try refine zU ?_)|(refine LS.nilQ ?_;try with_reducible intro nq hnq;try refine zU ?_))
    refine RS.call rfl ((field_plus h.p a (A t * B s % h.p * h.m (64 * j + 8 * l + i)) (fun y => tns h.p h.m A B t s (8 * i + y)) (fun y => h.m (64 * k + 8 * i' + y)) bo (8 * i) ⟨64, bys (rowsTo (tns h.p h.m A B t s) (tns h.p h.m A B t (s + 1)) i), 29⟩ _ _ hp (Hp.get_set_self _ go) (show 8 * i + 8 ≤ 64 by omega)
      (fun y hy => by simp only [bys, rowsTo]; rw [if_neg (by omega)]) (fun y hy => tns_res hp.1 _ _ _ _ _ 64 _ (by omega)) (fun x hx => hB.m _ (by omega)) (by omega)).mono ?_)
    rintro r H' n5 hn5 ⟨rfl, rfl⟩
    simp only [Hp.set_set]
    (repeat first|refine zG ?_|(refine LS.nilO ?_;intro nq hnq hltq;try refine zU ?_)|(refine MS.new ?_;intro bq hbq hbqf;try refine zU ?_)|(refine MS.nil ?_;intro nq hnq hltq;have hlq:=hltq _ _ (Hp.get_eq _ _ _);clear hltq;try refine zU ?_)|(refine LS.nilQ ?_;try with_reducible intro nq hnq;try refine zU ?_))
    refine ⟨by omega, by (repeat first | exact trivial | refine And.intro rfl ?_), Drops.setc go (fun q hq => rowsTo_step (fun y hy => ?_) q), trivial⟩
    rw [← tns_row h.p h.m A B t s i y hy, ht, hs, show (8 * j + k) / 8 = j by omega, show (8 * j + k) % 8 = k by omega, show (8 * l + i') / 8 = l by omega, show (8 * l + i') % 8 = i' by omega]
  · have : i = 8 := by omega
    subst this
    (repeat first|refine zG ?_|(refine LS.nilO ?_;intro nq hnq hltq;try refine zU ?_)|(refine MS.new ?_;intro bq hbq hbqf;try refine zU ?_)|(refine MS.nil ?_;intro nq hnq hltq;have hlq:=hltq _ _ (Hp.get_eq _ _ _);clear hltq;try refine zU ?_)|(refine LS.nilQ ?_;try with_reducible intro nq hnq;try refine zU ?_))
    exact ⟨_, H.set bo (bys (tns h.p h.m A B t (s + 1))), rfl, Drops.setc go (fun q hq => by simp only [bys]; rw [rowsTo_all (n := 8) (N := 64) (fun q h1 h2 => by omega) hq]), rfl⟩
/-- (*impl.Hopf).axiom5 -/
def ir110 : Cd := (.seq (.reg [⟨some 2,none,.mov (.c (.bool false))⟩]) (.seq (.reg [⟨some 6,none,.mov (.t 0)⟩,⟨some 7,none,.call 49 [(.t 6)]⟩,⟨some 3,none,.new 85 [(2,(.int .i64 0))]⟩,⟨none,none,.st 2 (.t 3) (.t 7)⟩]) (.seq (.seq (.reg [⟨some 8,none,.fa 1 (.t 3)⟩,⟨some 9,none,.ld none (.t 8)⟩,⟨some 10,none,.mov (.c (.int .i64 0))⟩]) (.block 0 (.loop (.seq (.reg [⟨some 11,none,.bin .lss (.t 10) (.t 9)⟩]) (.seq (.cond (.t 11) .skip (.exit 0)) (.seq (.block 1 (.seq (.reg [⟨some 12,none,.mov (.t 10)⟩,⟨some 4,none,.mov (.t 12)⟩]) (.seq (.reg [⟨some 13,none,.fa 1 (.t 3)⟩,⟨some 14,none,.ld none (.t 13)⟩,⟨some 15,none,.mov (.c (.int .i64 0))⟩]) (.block 2 (.loop (.seq (.reg [⟨some 16,none,.bin .lss (.t 15) (.t 14)⟩]) (.seq (.cond (.t 16) .skip (.exit 2)) (.seq (.block 3 (.seq (.reg [⟨some 17,none,.mov (.t 15)⟩,⟨some 5,none,.mov (.t 17)⟩]) (.seq (.drw true [] [⟨some 18,none,.mov (.t 0)⟩,⟨some 19,none,.mov (.t 0)⟩,⟨some 20,none,.mov (.t 4)⟩,⟨some 21,none,.mov (.t 5)⟩,⟨some 22,none,.ck (.t 19)⟩,⟨some 23,none,.fa 10 (.t 22)⟩,⟨some 24,none,.ia 8 64 (.t 23) (.t 20)⟩,⟨some 25,none,.ia 8 8 (.t 24) (.t 21)⟩,⟨some 26,none,.ld (some 8) (.t 25)⟩,⟨some 27,none,.call 129 [(.t 18),(.t 26)]⟩,⟨some 28,none,.mov (.t 0)⟩,⟨some 29,none,.mov (.t 4)⟩,⟨some 30,none,.ck (.t 28)⟩,⟨some 31,none,.fa 522 (.t 30)⟩,⟨some 32,none,.ia 8 1 (.t 31) (.t 29)⟩,⟨some 33,none,.ld none (.t 32)⟩,⟨some 34,none,.cv .i64 (.t 33)⟩,⟨some 35,none,.mov (.t 0)⟩,⟨some 36,none,.mov (.t 5)⟩,⟨some 37,none,.ck (.t 35)⟩,⟨some 38,none,.fa 522 (.t 37)⟩,⟨some 39,none,.ia 8 1 (.t 38) (.t 36)⟩,⟨some 40,none,.ld none (.t 39)⟩,⟨some 41,none,.cv .i64 (.t 40)⟩,⟨some 42,none,.bin .mul (.t 34) (.t 41)⟩,⟨some 43,none,.fa 0 (.t 3)⟩,⟨some 44,none,.ld none (.t 43)⟩,⟨some 45,none,.bin .rem (.t 42) (.t 44)⟩,⟨some 46,none,.bin .neq (.t 27) (.t 45)⟩]) (.cond (.t 46) (.seq (.reg [⟨some 2,none,.mov (.c (.bool false))⟩]) .ret) .skip)))) (.reg [⟨some 47,none,.bin .add (.t 15) (.c (.int .i64 1))⟩,⟨some 15,none,.mov (.t 47)⟩]))))))))) (.reg [⟨some 48,none,.bin .add (.t 10) (.c (.int .i64 1))⟩,⟨some 10,none,.mov (.t 48)⟩]))))))) (.seq (.reg [⟨some 49,none,.mov (.t 0)⟩,⟨some 50,none,.mov (.t 0)⟩,⟨some 51,none,.ck (.t 50)⟩,⟨some 52,none,.fa 2 (.t 51)⟩,⟨some 53,none,.ld (some 8) (.t 52)⟩,⟨some 54,none,.call 129 [(.t 49),(.t 53)]⟩,⟨some 55,none,.bin .eql (.t 54) (.c (.int .i64 1))⟩,⟨some 2,none,.mov (.t 55)⟩]) .ret))))
set_option maxRecDepth 100000 in
theorem tr110 : trFn Tryz.prog Tryz.f110 = some (56, ir110, [.tmp 2]) := by kernel_rfl
theorem Hopf_axiom5 (h : HT) (a : Nat) (b : Nat) (K : Blk) (H : Hp) (n : Nat) (hS : HS h a) (hb : H.get b = some K) (hsz : K.size = 1106) (hK : h.At K.c) (hB : h.By) :
    FnS Tryz.prog 110 [ptr b 0] H n (fun r H' _ => r = bl (tb (ax5 h)) ∧ H' = H) := by
  have hp := hS.hp
  have ha := hS.ha
  have hk1 := hK.n
  rw [hS.hn] at hk1
  have hk5 := hK.m
  have hk6 := hK.e
  have hk7 := hK.u
  refine FnS.of_body Tryz.func110 tr110 (by simp) (fun hf => ?_)
  dsimp only [argEnv]
  unfold ir110
  have hbn := getlt hf hb
  (repeat first|refine zG ?_|(refine LS.nilO ?_;intro nq hnq hltq;try refine zU ?_)|(refine MS.new ?_;intro bq hbq hbqf;try refine zU ?_)|(refine MS.nil ?_;intro nq hnq hltq;have hlq:=hltq _ _ (Hp.get_eq _ _ _);clear hltq;try refine zU ?_)|(refine LS.nilQ ?_;try with_reducible intro nq hnq;try refine zU ?_))
  refine RS.call rfl ((Hopf_field h.p a b K _ _ (by exact zH) hsz hK.p hk1 (by omega)).mono ?_)
  rintro r H n2 hn2 ⟨rfl, rfl⟩
  (repeat first|refine zG ?_|(refine LS.nilO ?_;intro nq hnq hltq;try refine zU ?_)|(refine MS.new ?_;intro bq hbq hbqf;try refine zU ?_)|(refine MS.nil ?_;intro nq hnq hltq;have hlq:=hltq _ _ (Hp.get_eq _ _ _);clear hltq;try refine zU ?_)|(refine LS.nilQ ?_;try with_reducible intro nq hnq;try refine zU ?_))
  refine CS.iter a (fun i => [(10, i64 i), (9, i64 a), (3, ptr n2 0), (0, ptr b 0)]) (fun _ => (n2, ⟨2, fldC h.p a, 85⟩) :: H)
    (fun i => ∀ i' j : Nat, i' < i → j < a → dotk h.p h.e (fun x => h.m (64 * i' + 8 * j + x)) 8 = h.e i' * h.e j % h.p) (by (repeat first | exact trivial | refine And.intro rfl ?_)) (by exact zD) (fun _ _ h => by omega) ?_
  intro i n1 hi hn hJ
  (repeat first|refine zG ?_|(refine LS.nilO ?_;intro nq hnq hltq;try refine zU ?_)|(refine MS.new ?_;intro bq hbq hbqf;try refine zU ?_)|(refine MS.nil ?_;intro nq hnq hltq;have hlq:=hltq _ _ (Hp.get_eq _ _ _);clear hltq;try refine zU ?_)|(refine LS.nilQ ?_;try with_reducible intro nq hnq;try refine zU ?_))
  refine zI ?_ ?_<;>intro h2
  · (repeat first|refine zG ?_|(refine LS.nilO ?_;intro nq hnq hltq;try refine zU ?_)|(refine MS.new ?_;intro bq hbq hbqf;try refine zU ?_)|(refine MS.nil ?_;intro nq hnq hltq;have hlq:=hltq _ _ (Hp.get_eq _ _ _);clear hltq;try refine zU ?_)|(refine LS.nilQ ?_;try with_reducible intro nq hnq;try refine zU ?_))
    refine CS.iter a (fun j => [(15, i64 j), (14, i64 a), (4, i64 i), (10, i64 i), (9, i64 a), (3, ptr n2 0), (0, ptr b 0)]) (fun _ => (n2, ⟨2, fldC h.p a, 85⟩) :: H)
      (fun j => ∀ j' : Nat, j' < j → dotk h.p h.e (fun x => h.m (64 * i + 8 * j' + x)) 8 = h.e i * h.e j' % h.p) (by (repeat first | exact trivial | refine And.intro rfl ?_)) (Drops.refl _ _) (fun _ h => by omega) ?_
    intro j n3 hj hn3 hJ2
    (repeat first|refine zG ?_|(refine LS.nilO ?_;intro nq hnq hltq;try refine zU ?_)|(refine MS.new ?_;intro bq hbq hbqf;try refine zU ?_)|(refine MS.nil ?_;intro nq hnq hltq;have hlq:=hltq _ _ (Hp.get_eq _ _ _);clear hltq;try refine zU ?_)|(refine LS.nilQ ?_;try with_reducible intro nq hnq;try refine zU ?_))
    refine zI ?_ ?_<;>intro h3
    · have hei := hB.e i (by omega)
      have hej := hB.e j (by omega)
      have hee := mulB hei.1 hei.2 hej.1 hej.2
      (repeat first|refine zG ?_|(refine LS.nilO ?_;intro nq hnq hltq;try refine zU ?_)|(refine MS.new ?_;intro bq hbq hbqf;try refine zU ?_)|(refine MS.nil ?_;intro nq hnq hltq;have hlq:=hltq _ _ (Hp.get_eq _ _ _);clear hltq;try refine zU ?_)|(refine LS.nilQ ?_;try with_reducible intro nq hnq;try refine zU ?_))
      refine LS.callQ (i64 (dotk h.p h.e (fun x => h.m (64 * i + 8 * j + x)) 8)) rfl (fun n' hn' => Hopf_counit h a (fun x => h.m (64 * i + 8 * j + x)) b K _ _ hS (by exact zH) hsz hK hB (hB.rowm (by omega) (by omega))) ?_
      (repeat first|refine zG ?_|(refine LS.nilO ?_;intro nq hnq hltq;try refine zU ?_)|(refine MS.new ?_;intro bq hbq hbqf;try refine zU ?_)|(refine MS.nil ?_;intro nq hnq hltq;have hlq:=hltq _ _ (Hp.get_eq _ _ _);clear hltq;try refine zU ?_)|(refine LS.nilQ ?_;try with_reducible intro nq hnq;try refine zU ?_))
      refine zI ?_ ?_<;>intro h4
      · (repeat first|refine zG ?_|(refine LS.nilO ?_;intro nq hnq hltq;try refine zU ?_)|(refine MS.new ?_;intro bq hbq hbqf;try refine zU ?_)|(refine MS.nil ?_;intro nq hnq hltq;have hlq:=hltq _ _ (Hp.get_eq _ _ _);clear hltq;try refine zU ?_)|(refine LS.nilQ ?_;try with_reducible intro nq hnq;try refine zU ?_))
        exact ⟨_, H, rfl, by exact zD, by rw [tb_false (fun q => h4 (q.1 i j (by rw [hS.N]; omega) (by rw [hS.N]; omega)))], rfl⟩
      · (repeat first|refine zG ?_|(refine LS.nilO ?_;intro nq hnq hltq;try refine zU ?_)|(refine MS.new ?_;intro bq hbq hbqf;try refine zU ?_)|(refine MS.nil ?_;intro nq hnq hltq;have hlq:=hltq _ _ (Hp.get_eq _ _ _);clear hltq;try refine zU ?_)|(refine LS.nilQ ?_;try with_reducible intro nq hnq;try refine zU ?_))
        refine ⟨by omega, by (repeat first | exact trivial | refine And.intro rfl ?_), Drops.refl _ _, fun j' hj' => ?_⟩
        by_cases e : j' = j
        · subst e; exact h4
        · exact hJ2 j' (by omega)
    · have : j = a := by omega
      subst this
      (repeat first|refine zG ?_|(refine LS.nilO ?_;intro nq hnq hltq;try refine zU ?_)|(refine MS.new ?_;intro bq hbq hbqf;try refine zU ?_)|(refine MS.nil ?_;intro nq hnq hltq;have hlq:=hltq _ _ (Hp.get_eq _ _ _);clear hltq;try refine zU ?_)|(refine LS.nilQ ?_;try with_reducible intro nq hnq;try refine zU ?_))
      refine ⟨by omega, by (repeat first | exact trivial | refine And.intro rfl ?_), Drops.refl _ _, fun i' j' hi' => ?_⟩
      by_cases e : i' = i
      · subst e; exact fun hj' => hJ2 j' hj'
      · exact hJ i' j' (by omega)
  · have : i = a := by omega
    subst this
    (repeat first|refine zG ?_|(refine LS.nilO ?_;intro nq hnq hltq;try refine zU ?_)|(refine MS.new ?_;intro bq hbq hbqf;try refine zU ?_)|(refine MS.nil ?_;intro nq hnq hltq;have hlq:=hltq _ _ (Hp.get_eq _ _ _);clear hltq;try refine zU ?_)|(refine LS.nilQ ?_;try with_reducible intro nq hnq;try refine zU ?_))
    refine RS.call rfl ((Hopf_counit h i h.u b K _ _ hS (by exact zH) hsz hK hB hB.u).mono ?_)
    rintro r H4 n3 hn3 ⟨rfl, rfl⟩
    (repeat first|refine zG ?_|(refine LS.nilO ?_;intro nq hnq hltq;try refine zU ?_)|(refine MS.new ?_;intro bq hbq hbqf;try refine zU ?_)|(refine MS.nil ?_;intro nq hnq hltq;have hlq:=hltq _ _ (Hp.get_eq _ _ _);clear hltq;try refine zU ?_)|(refine LS.nilQ ?_;try with_reducible intro nq hnq;try refine zU ?_))
    exact ⟨_, H, rfl, by exact zD, by
      rw [tb_iff (R := dotk h.p h.e h.u 8 = 1) ⟨fun q => q.2, fun q => ⟨fun i' j' h1 h2 => by rw [hS.N] at h1 h2; exact hJ i' j' h1 h2, q⟩⟩, tb_dec]
      rfl, rfl⟩
/-- (*impl.Hopf).product1312$1 -/
def ir97 : Cd := (.seq (.reg [⟨some 7,none,.box 3 (.t 0)⟩,⟨some 8,none,.box 3 (.t 1)⟩,⟨some 9,none,.box 3 (.t 2)⟩]) (.reg [⟨some 10,none,.ld none (.t 3)⟩,⟨some 11,none,.mkf 98 [] [(.t 4),(.t 7),(.t 5),(.t 6),(.t 8),(.t 9)]⟩,⟨some 12,none,.call 51 [(.t 10),(.t 11)]⟩]))
set_option maxRecDepth 100000 in
theorem tr97 : trFn Tryz.prog Tryz.f97 = some (13, ir97, []) := by kernel_rfl
theorem Hopf_product1312_1 (h : HT) (a : Nat) (s : Nat → Int) (t j k : Nat) (ht : t = 8 * j + k) (hj : j < 8) (hk : k < 8)
    (b bs os br bh bf bo : Nat) (K Ks Kr Kh : Blk) (H : Hp) (n : Nat) (hS : HS h a) (hb : H.get b = some K) (hsz : K.size = 1106) (hK : h.At K.c) (hB : h.By) (hs : isBy 64 s)
    (gs : H.get bs = some Ks) (ss : os + 64 ≤ Ks.size) (cs : ∀ q, q < 64 → Ks.c (os + q) = .int .u8 (s q))
    (gr : H.get br = some Kr) (sr : Kr.size = 1) (cr : Kr.c 0 = .ptr bs os) (gh : H.get bh = some Kh) (sh : Kh.size = 1) (ch : Kh.c 0 = .ptr b 0) (gf : H.get bf = some ⟨2, fldC h.p a, 85⟩)
    (go : H.get bo = some ⟨512, bys (q12 h.p h.m s t 0), 33⟩) (d1 : bo ≠ b) (d2 : bo ≠ bh) (d3 : bo ≠ br) (d4 : bo ≠ bf) (d5 : bo ≠ bs) :
    FnS Tryz.prog 97 [i64 j, i64 k, i64 (s t), ptr br 0, ptr bh 0, ptr bf 0, ptr bo 0] H n (fun _ H' _ => H' = H.set bo (bys (q12 h.p h.m s (t + 1) 0))) := by
  have hp := hS.hp
  have hs0 : H.set bo (bys (q12 h.p h.m s t 0)) = H := Hp.set_self go
  refine FnS.of_body Tryz.func97 tr97 (by simp) (fun hf => ?_)
  dsimp only [argEnv]
  unfold ir97
  have hbn := getlt hf hb
  have hbn1 := getlt hf gs
  have hbn2 := getlt hf gr
  have hbn3 := getlt hf gh
  have hbn4 := getlt hf gf
  have hbn5 := getlt hf go
  (repeat first|refine zG ?_|(refine LS.nilO ?_;intro nq hnq hltq;try refine zU ?_)|(refine MS.new ?_;intro bq hbq hbqf;try refine zU ?_)|(refine MS.nil ?_;intro nq hnq hltq;have hlq:=hltq _ _ (Hp.get_eq _ _ _);clear hltq;try refine zU ?_)|(refine LS.nilQ ?_;try with_reducible intro nq hnq;try refine zU ?_))
  refine RS.call rfl ((impl_pairs s bs os _ _ (fun t2 => (n + 2, ⟨1, fun _ => .int .i64 (s t), 3⟩) :: (n + 1, ⟨1, fun _ => .int .i64 k, 3⟩) :: (n, ⟨1, fun _ => .int .i64 j, 3⟩) :: H.set bo (bys (q12 h.p h.m s t t2))) _ _ (by (try dsimp only); rw [hs0])
    (fun t2 ht2 => ⟨Ks, by exact zH, ss, cs⟩) hs (fun t2 ht2 hz => by (try dsimp only); rw [q12_same hz]) (fun t2 l i' n' ht2 ht2' hi' hz hn' => ?_)).mono ?_)
  · refine (Hopf_product1312_2 h a s t t2 j k l i' ht hj hk ht2' (by omega) hi' b bh n bf bo (n + 2) (n + 1) K Kh _ _ _ _ n' hS (by exact zH) hsz hK hB hs (by exact zH) sh ch (by exact zH) rfl rfl (by exact zH) (by simp (disch := omega) only [Hp.get_ne]; exact Hp.get_set_self _ go) (by exact zH) rfl rfl (by exact zH) rfl rfl d1 d2 (by omega) d4 (by omega) (by omega)).mono ?_
    rintro r H' n2 hn2 rfl
    simp (disch := omega) only [Hp.set_eq, Hp.set_ne, Hp.set_set]
  rintro r H' n2 hn2 rfl
  (repeat first|refine zG ?_|(refine LS.nilO ?_;intro nq hnq hltq;try refine zU ?_)|(refine MS.new ?_;intro bq hbq hbqf;try refine zU ?_)|(refine MS.nil ?_;intro nq hnq hltq;have hlq:=hltq _ _ (Hp.get_eq _ _ _);clear hltq;try refine zU ?_)|(refine LS.nilQ ?_;try with_reducible intro nq hnq;try refine zU ?_))
  exact ⟨_, H.set bo (bys (q12 h.p h.m s (t + 1) 0)), rfl, by
    rw [q12_next]
    refine Drops.drop (by omega) ?_ (Drops.drop (by omega) ?_ (Drops.drop (by omega) ?_ (Drops.refl _ _))) <;> exact Hp.get_set_none _ (hf _ (by omega)), rfl⟩
/-- spec.l09Back -/
def ir21 : Cd := (.seq (.reg [⟨some 2,none,.box 35 (.t 0)⟩,⟨some 3,none,.box 29 (.t 1)⟩,⟨some 4,none,.new 29 [(64,(.int .u8 0))]⟩]) (.seq (.reg [⟨some 8,none,.build 64 [(64,(.int .u8 0))] []⟩,⟨some 5,none,.new 29 [(64,(.int .u8 0))]⟩,⟨none,none,.st 64 (.t 5) (.t 8)⟩]) (.seq (.seq (.reg [⟨some 6,none,.mov (.c (.int .i64 0))⟩]) (.block 0 (.loop (.seq (.seq (.reg [⟨some 9,none,.mov (.t 6)⟩,⟨some 10,none,.fa 1 (.t 2)⟩,⟨some 11,none,.ld none (.t 10)⟩,⟨some 12,none,.bin .lss (.t 9) (.t 11)⟩]) (.cond (.t 12) .skip (.exit 0))) (.seq (.block 1 (.seq (.reg [⟨some 7,none,.mov (.c (.int .i64 0))⟩]) (.block 2 (.loop (.seq (.seq (.reg [⟨some 15,none,.mov (.t 7)⟩,⟨some 16,none,.fa 1 (.t 2)⟩,⟨some 17,none,.ld none (.t 16)⟩,⟨some 18,none,.bin .lss (.t 15) (.t 17)⟩]) (.cond (.t 18) .skip (.exit 2))) (.seq (.block 3 (.drw true [18] [⟨some 21,none,.mov (.t 7)⟩,⟨some 22,none,.fa 0 (.t 2)⟩,⟨some 23,none,.ld none (.t 22)⟩,⟨some 24,none,.mov (.t 7)⟩,⟨some 25,none,.ia 8 8 (.t 5) (.t 24)⟩,⟨some 26,none,.ld (some 8) (.t 25)⟩,⟨some 27,none,.mov (.t 6)⟩,⟨some 28,none,.ia 8 8 (.t 3) (.t 27)⟩,⟨some 29,none,.ld (some 8) (.t 28)⟩,⟨some 30,none,.mov (.t 6)⟩,⟨some 31,none,.mov (.t 7)⟩,⟨some 32,none,.fa 1042 (.t 2)⟩,⟨some 33,none,.ia 8 8 (.t 32) (.t 30)⟩,⟨some 34,none,.ia 8 1 (.t 33) (.t 31)⟩,⟨some 35,none,.ld none (.t 34)⟩,⟨some 36,none,.cv .i64 (.t 35)⟩,⟨some 37,none,.call 47 [(.t 23),(.t 26),(.t 29),(.t 36)]⟩,⟨some 38,none,.ia 8 8 (.t 5) (.t 21)⟩,⟨none,none,.st 8 (.t 38) (.t 37)⟩])) (.reg [⟨some 19,none,.mov (.t 7)⟩,⟨some 20,none,.bin .add (.t 19) (.c (.int .i64 1))⟩,⟨some 7,none,.mov (.t 20)⟩]))))))) (.reg [⟨some 13,none,.mov (.t 6)⟩,⟨some 14,none,.bin .add (.t 13) (.c (.int .i64 1))⟩,⟨some 6,none,.mov (.t 14)⟩])))))) (.seq (.reg [⟨some 39,none,.ld (some 64) (.t 5)⟩,⟨none,none,.st 64 (.t 4) (.t 39)⟩]) .ret))))
set_option maxRecDepth 100000 in
theorem tr21 : trFn Tryz.prog Tryz.f21 = some (40, ir21, [.cell (some 64) 4]) := by kernel_rfl
theorem spec_l09Back (h : HT) (a : Nat) (s : Nat → Int) (K : Nat → SV) (H : Hp) (n : Nat) (hS : HS h a) (hK : h.At K) (hB : h.By) (hs : isBy 64 s) :
    FnS Tryz.prog 21 [.arr 1106 K, .arr 64 (bys s)] H n (fun r H' _ => r = .arr 64 (bys (und h.p h.s s a)) ∧ H' = H) := by
  have hp := hS.hp
  have ha := hS.ha
  have hk0 := hK.p
  have hk1 := hK.n
  rw [hS.hn] at hk1
  have hk5 := hK.s
  refine FnS.of_body Tryz.func21 tr21 (by simp) (fun hf => ?_)
  dsimp only [argEnv]
  unfold ir21
  (repeat first|refine zG ?_|(refine LS.nilO ?_;intro nq hnq hltq;try refine zU ?_)|(refine MS.new ?_;intro bq hbq hbqf;try refine zU ?_)|(refine MS.nil ?_;intro nq hnq hltq;have hlq:=hltq _ _ (Hp.get_eq _ _ _);clear hltq;try refine zU ?_)|(refine LS.nilQ ?_;try with_reducible intro nq hnq;try refine zU ?_))
  refine CS.iter a (fun k => [(6, i64 k), (2, ptr n 0), (3, ptr (n + 1) 0), (4, ptr (n + 2) 0), (5, ptr (n + 3) 0)])
    (fun k => (n + 3, ⟨64, bys (und h.p h.s s k), 29⟩) :: (n + 2, ⟨64, bys (fun _ => 0), 29⟩) :: (n + 1, ⟨64, bys s, 29⟩) :: (n, ⟨1106, K, 35⟩) :: H) (fun _ => True) (by (repeat first | exact trivial | refine And.intro rfl ?_))
    (Drops.keepc rfl rfl (fun _ _ => by rw [und_zero]; rfl) (Drops.keepc rfl rfl (fun _ _ => rfl) (Drops.refl _ _))) trivial ?_
  intro k n3 hk hn _
  (repeat first|refine zG ?_|(refine LS.nilO ?_;intro nq hnq hltq;try refine zU ?_)|(refine MS.new ?_;intro bq hbq hbqf;try refine zU ?_)|(refine MS.nil ?_;intro nq hnq hltq;have hlq:=hltq _ _ (Hp.get_eq _ _ _);clear hltq;try refine zU ?_)|(refine LS.nilQ ?_;try with_reducible intro nq hnq;try refine zU ?_))
  refine zI ?_ ?_<;>intro h2
  · (repeat first|refine zG ?_|(refine LS.nilO ?_;intro nq hnq hltq;try refine zU ?_)|(refine MS.new ?_;intro bq hbq hbqf;try refine zU ?_)|(refine MS.nil ?_;intro nq hnq hltq;have hlq:=hltq _ _ (Hp.get_eq _ _ _);clear hltq;try refine zU ?_)|(refine LS.nilQ ?_;try with_reducible intro nq hnq;try refine zU ?_))
    refine CS.iter a (fun i => [(7, i64 i), (6, i64 k), (2, ptr n 0), (3, ptr (n + 1) 0), (4, ptr (n + 2) 0), (5, ptr (n + 3) 0)])
      (fun i => (n + 3, ⟨64, bys (rowsTo (und h.p h.s s k) (und h.p h.s s (k + 1)) i), 29⟩) :: (n + 2, ⟨64, bys (fun _ => 0), 29⟩) :: (n + 1, ⟨64, bys s, 29⟩) :: (n, ⟨1106, K, 35⟩) :: H) (fun _ => True) (by (repeat first | exact trivial | refine And.intro rfl ?_))
      (Drops.keepc rfl rfl (fun _ _ => by rw [rowsTo_zero]) (Drops.refl _ _)) trivial ?_
    intro i n4 hi hn4 _
    (repeat first|refine zG ?_|(refine LS.nilO ?_;intro nq hnq hltq;try refine zU ?_)|(refine MS.new ?_;intro bq hbq hbqf;try refine zU ?_)|(refine MS.nil ?_;intro nq hnq hltq;have hlq:=hltq _ _ (Hp.get_eq _ _ _);clear hltq;try refine zU ?_)|(refine LS.nilQ ?_;try with_reducible intro nq hnq;try refine zU ?_))
    refine zI ?_ ?_<;>intro h3
    · have hx := hB.s (8 * k + i) (by omega)
      have hr : ∀ q, q < 8 → (bys (rowsTo (und h.p h.s s k) (und h.p h.s s (k + 1)) i)) (8 * i + q) = .int .u8 (und h.p h.s s k (8 * i + q)) := fun y hy => by simp only [bys, rowsTo]; rw [if_neg (by omega)]
      have hr2 : ∀ q, q < 8 → (bys s) (8 * k + q) = .int .u8 (s (8 * k + q)) := fun y hy => rfl
      (repeat first|refine zG ?_|(refine LS.nilO ?_;intro nq hnq hltq;try refine zU ?_)|(refine MS.new ?_;intro bq hbq hbqf;try refine zU ?_)|(refine MS.nil ?_;intro nq hnq hltq;have hlq:=hltq _ _ (Hp.get_eq _ _ _);clear hltq;try refine zU ?_)|(refine LS.nilQ ?_;try with_reducible intro nq hnq;try refine zU ?_))
      refine LS.callQ (.arr 8 (bys (pl h.p (fun y => und h.p h.s s k (8 * i + y)) (h.s (8 * k + i)) (fun y => s (8 * k + y))))) rfl (fun n' hn' => spec_l01Add h.p (h.s (8 * k + i)) (fun y => und h.p h.s s k (8 * i + y)) (fun y => s (8 * k + y)) _ _ hp (fun y hy => (und_res hp.1 h.s s k 64).by hp.2 _ (by omega)) (fun x hx => hs _ (by omega)) (by omega)) ?_
      (repeat first|refine zG ?_|(refine LS.nilO ?_;intro nq hnq hltq;try refine zU ?_)|(refine MS.new ?_;intro bq hbq hbqf;try refine zU ?_)|(refine MS.nil ?_;intro nq hnq hltq;have hlq:=hltq _ _ (Hp.get_eq _ _ _);clear hltq;try refine zU ?_)|(refine LS.nilQ ?_;try with_reducible intro nq hnq;try refine zU ?_))
      refine ⟨by omega, by (repeat first | exact trivial | refine And.intro rfl ?_), Drops.keepc rfl rfl (fun q hq => rowsTo_step (fun y hy => ?_) q) (Drops.refl _ _), trivial⟩
      rw [← und_row _ _ _ _ _ _ hy]
    · have : i = a := by omega
      subst this
      (repeat first|refine zG ?_|(refine LS.nilO ?_;intro nq hnq hltq;try refine zU ?_)|(refine MS.new ?_;intro bq hbq hbqf;try refine zU ?_)|(refine MS.nil ?_;intro nq hnq hltq;have hlq:=hltq _ _ (Hp.get_eq _ _ _);clear hltq;try refine zU ?_)|(refine LS.nilQ ?_;try with_reducible intro nq hnq;try refine zU ?_))
      exact ⟨by omega, by (repeat first | exact trivial | refine And.intro rfl ?_), Drops.keepc rfl rfl (fun q hq => by simp only [bys]; rw [rowsTo_all (N := 64) (fun q h1 h2 => und_same (hS.sm k (q / 8) (by omega) (by omega) (by omega))) hq]) (Drops.refl _ _), trivial⟩
  · have : k = a := by omega
    subst this
    (repeat first|refine zG ?_|(refine LS.nilO ?_;intro nq hnq hltq;try refine zU ?_)|(refine MS.new ?_;intro bq hbq hbqf;try refine zU ?_)|(refine MS.nil ?_;intro nq hnq hltq;have hlq:=hltq _ _ (Hp.get_eq _ _ _);clear hltq;try refine zU ?_)|(refine LS.nilQ ?_;try with_reducible intro nq hnq;try refine zU ?_))
    exact ⟨.arr 64 (bys (und h.p h.s s k)), H, conc_arr (fun q hq => by simp only [Nat.zero_add]), by exact zD, rfl, rfl⟩
end Go.Proofs.YtbknndbfbebkdabGreatR
