/- Contracts of the program's functions. -/
import Derived.Test.YtbknndbfbebkdabGreatRR
import Derived.Test.YtbknndbfbebkdabGreatRLW
import Derived.Test.YtbknndbfbebkdabGreatRD00
namespace Go.Proofs.YtbknndbfbebkdabGreatR
open Go.V
set_option linter.unusedSimpArgs false
set_option linter.unusedVariables false
set_option maxHeartbeats 4000000
/-- spec.l01In -/
def ir132 : Cd := (.seq (.reg [⟨some 6,none,.mov (.c (.bool false))⟩]) (.seq (.reg [⟨some 7,none,.mov (.t 0)⟩,⟨some 8,none,.mov (.t 1)⟩,⟨some 9,none,.bin .geq (.t 7) (.t 8)⟩,⟨some 10,none,.mov (.t 9)⟩,⟨some 11,(some (10,true)),.mov (.t 0)⟩,⟨some 12,(some (10,true)),.mov (.t 2)⟩,⟨some 13,(some (10,true)),.bin .leq (.t 11) (.t 12)⟩,⟨some 14,none,.pick (.t 10) (.t 13) (.c (.bool false))⟩,⟨some 6,none,.mov (.t 14)⟩]) .ret))
set_option maxRecDepth 100000 in
theorem tr132 : trFn Tryz.prog Tryz.f132 = some (15, ir132, [.tmp 6]) := by kernel_rfl
theorem spec_l01In (x a b : Int) (H : Hp) (n : Nat) :
    FnS Tryz.prog 132 [i64 x, i64 a, i64 b] H n (fun v H' _ => v = bl (decide (a ≤ x ∧ x ≤ b)) ∧ H' = H) := by
  refine FnS.of_body Tryz.func132 tr132 (by simp) (fun hf => ?_)
  dsimp only [argEnv]
  unfold ir132
  (repeat first|refine zG ?_|(refine LS.nilO ?_;intro nq hnq hltq;try refine zU ?_)|(refine MS.new ?_;intro bq hbq hbqf;try refine zU ?_)|(refine MS.nil ?_;intro nq hnq hltq;have hlq:=hltq _ _ (Hp.get_eq _ _ _);clear hltq;try refine zU ?_)|(refine LS.nilQ ?_;try with_reducible intro nq hnq;try refine zU ?_))
  refine RS.sp (t := 10) rfl (fun h => ?_) (fun h => ?_) <;> (try simp only [tb_eq, tb_eqF, decide_eq_true_eq, decide_eq_false_iff_not, beq_iff_eq, bne_iff_ne, ne_eq, Decidable.not_not, beq_eq_false_iff_ne, bne_eq_false_iff_eq, Bool.not_eq_true', Bool.not_eq_false', Bool.not_eq_eq_eq_not, Bool.not_true, Bool.not_false] at h)
  all_goals
    (repeat first|refine zG ?_|(refine LS.nilO ?_;intro nq hnq hltq;try refine zU ?_)|(refine MS.new ?_;intro bq hbq hbqf;try refine zU ?_)|(refine MS.nil ?_;intro nq hnq hltq;have hlq:=hltq _ _ (Hp.get_eq _ _ _);clear hltq;try refine zU ?_)|(refine LS.nilQ ?_;try with_reducible intro nq hnq;try refine zU ?_))
    exact ⟨_, H, rfl, by exact zD, by simp [h], rfl⟩
/-- (impl.field).dot -/
def ir139 : Cd := (.seq (.reg [⟨some 3,none,.box 85 (.t 0)⟩,⟨some 4,none,.box 27 (.t 1)⟩,⟨some 5,none,.box 27 (.t 2)⟩,⟨some 6,none,.mov (.c (.int .i64 0))⟩]) (.seq (.reg [⟨some 7,none,.mov (.c (.int .i64 0))⟩]) (.seq (.seq (.reg [⟨some 10,none,.ld (some 8) (.t 4)⟩,⟨some 11,none,.mov (.c (.int .i64 0))⟩]) (.block 0 (.loop (.seq (.reg [⟨some 12,none,.bin .lss (.t 11) (.c (.int .i64 8))⟩]) (.seq (.cond (.t 12) .skip (.exit 0)) (.seq (.block 1 (.seq (.reg [⟨some 13,none,.mov (.t 11)⟩,⟨some 14,none,.ix 8 1 none (.t 10) (.t 11)⟩,⟨some 8,none,.mov (.t 13)⟩,⟨some 9,none,.mov (.t 14)⟩]) (.reg [⟨some 15,none,.mov (.t 7)⟩,⟨some 16,none,.mov (.t 9)⟩,⟨some 17,none,.cv .i64 (.t 16)⟩,⟨some 18,none,.mov (.t 8)⟩,⟨some 19,none,.ia 8 1 (.t 5) (.t 18)⟩,⟨some 20,none,.ld none (.t 19)⟩,⟨some 21,none,.cv .i64 (.t 20)⟩,⟨some 22,none,.bin .mul (.t 17) (.t 21)⟩,⟨some 23,none,.bin .add (.t 15) (.t 22)⟩,⟨some 7,none,.mov (.t 23)⟩]))) (.reg [⟨some 24,none,.bin .add (.t 11) (.c (.int .i64 1))⟩,⟨some 11,none,.mov (.t 24)⟩]))))))) (.seq (.reg [⟨some 25,none,.mov (.t 7)⟩,⟨some 26,none,.fa 0 (.t 3)⟩,⟨some 27,none,.ld none (.t 26)⟩,⟨some 28,none,.bin .rem (.t 25) (.t 27)⟩,⟨some 6,none,.mov (.t 28)⟩]) .ret))))
set_option maxRecDepth 100000 in
theorem tr139 : trFn Tryz.prog Tryz.f139 = some (29, ir139, [.tmp 6]) := by kernel_rfl
theorem field_dot (p n' : Int) (v w : Nat → Int) (H : Hp) (n : Nat) (hp : 2 ≤ p ∧ p ≤ 31) (hv : isBy 8 v) (hw : isBy 8 w) :
    FnS Tryz.prog 139 [fld p n', .arr 8 (bys v), .arr 8 (bys w)] H n (fun r H' _ => r = i64 (dotk p v w 8) ∧ H' = H) := by
  refine FnS.of_body Tryz.func139 tr139 (by simp) (fun hf => ?_)
  dsimp only [argEnv]
  unfold ir139
  (repeat first|refine zG ?_|(refine LS.nilO ?_;intro nq hnq hltq;try refine zU ?_)|(refine MS.new ?_;intro bq hbq hbqf;try refine zU ?_)|(refine MS.nil ?_;intro nq hnq hltq;have hlq:=hltq _ _ (Hp.get_eq _ _ _);clear hltq;try refine zU ?_)|(refine LS.nilQ ?_;try with_reducible intro nq hnq;try refine zU ?_))
  refine CS.iter 8 (fun i => [(11, i64 i), (7, i64 (sm (fun i => v i * w i) i)), (10, .arr 8 (bys v)), (5, ptr (n + 2) 0), (3, ptr n 0)])
    (fun i => (n + 2, ⟨8, bys w, 27⟩) :: (n + 1, ⟨8, bys v, 27⟩) :: (n, ⟨2, fldC p n', 85⟩) :: H) (fun _ => True) (by (repeat first | exact trivial | refine And.intro rfl ?_)) (Drops.keepc rfl rfl (fun _ _ => rfl) (Drops.keepc rfl rfl (fun _ _ => rfl) (Drops.refl _ _))) trivial ?_
  intro i n1 hi hn _
  have hs := sm_b (f := fun i => v i * w i) (B := 65025) (n := i) (fun q hq => by
    have h1 := hv q (by omega)
    have h2 := hw q (by omega)
    exact mulB h1.1 h1.2 h2.1 h2.2)
  (repeat first|refine zG ?_|(refine LS.nilO ?_;intro nq hnq hltq;try refine zU ?_)|(refine MS.new ?_;intro bq hbq hbqf;try refine zU ?_)|(refine MS.nil ?_;intro nq hnq hltq;have hlq:=hltq _ _ (Hp.get_eq _ _ _);clear hltq;try refine zU ?_)|(refine LS.nilQ ?_;try with_reducible intro nq hnq;try refine zU ?_))
  refine zI ?_ ?_<;>intro h1
  · have hvi := hv i (by omega)
    have hwi := hw i (by omega)
    have hvw := mulB hvi.1 hvi.2 hwi.1 hwi.2
    (repeat first|refine zG ?_|(refine LS.nilO ?_;intro nq hnq hltq;try refine zU ?_)|(refine MS.new ?_;intro bq hbq hbqf;try refine zU ?_)|(refine MS.nil ?_;intro nq hnq hltq;have hlq:=hltq _ _ (Hp.get_eq _ _ _);clear hltq;try refine zU ?_)|(refine LS.nilQ ?_;try with_reducible intro nq hnq;try refine zU ?_))
    exact ⟨by omega, by (repeat first | exact trivial | refine And.intro rfl ?_), Drops.refl _ _, trivial⟩
  · have : i = 8 := by omega
    subst this
    (repeat first|refine zG ?_|(refine LS.nilO ?_;intro nq hnq hltq;try refine zU ?_)|(refine MS.new ?_;intro bq hbq hbqf;try refine zU ?_)|(refine MS.nil ?_;intro nq hnq hltq;have hlq:=hltq _ _ (Hp.get_eq _ _ _);clear hltq;try refine zU ?_)|(refine LS.nilQ ?_;try with_reducible intro nq hnq;try refine zU ?_))
    exact ⟨i64 (dotk p v w 8), H, rfl, by exact zD, rfl, rfl⟩
/-- (*impl.Coalgebra).field -/
def ir138 : Cd := (.seq (.reg [⟨some 2,none,.new 85 [(2,(.int .i64 0))]⟩]) (.seq (.drw true [9] [⟨some 3,none,.mov (.t 0)⟩,⟨some 4,none,.ck (.t 3)⟩,⟨some 5,none,.fa 0 (.t 4)⟩,⟨some 6,none,.ld none (.t 5)⟩,⟨some 7,none,.mov (.t 0)⟩,⟨some 8,none,.ck (.t 7)⟩,⟨some 9,none,.fa 1 (.t 8)⟩,⟨some 10,none,.ld none (.t 9)⟩,⟨some 11,none,.build 2 [(2,(.int .i64 0))] [(0,1,(.t 6)),(1,1,(.t 10))]⟩,⟨none,none,.st 2 (.t 2) (.t 11)⟩]) .ret))
set_option maxRecDepth 100000 in
theorem tr138 : trFn Tryz.prog Tryz.f138 = some (12, ir138, [.cell (some 2) 2]) := by kernel_rfl
theorem Coalgebra_field (p n' : Int) (b : Nat) (K : Blk) (H : Hp) (n : Nat) (hb : H.get b = some K) (hsz : K.size = 522) (h0 : K.c 0 = .int .i64 p) (h1 : K.c 1 = .int .i64 n')
    (hr : -9223372036854775808 ≤ p ∧ p ≤ 9223372036854775807 ∧ -9223372036854775808 ≤ n' ∧ n' ≤ 9223372036854775807) :
    FnS Tryz.prog 138 [ptr b 0] H n (fun r H' _ => r = fld p n' ∧ H' = H) := by
  refine FnS.of_body Tryz.func138 tr138 (by simp) (fun hf => ?_)
  dsimp only [argEnv]
  unfold ir138
  have hbn := getlt hf hb
  (repeat first|refine zG ?_|(refine LS.nilO ?_;intro nq hnq hltq;try refine zU ?_)|(refine MS.new ?_;intro bq hbq hbqf;try refine zU ?_)|(refine MS.nil ?_;intro nq hnq hltq;have hlq:=hltq _ _ (Hp.get_eq _ _ _);clear hltq;try refine zU ?_)|(refine LS.nilQ ?_;try with_reducible intro nq hnq;try refine zU ?_))
  exact ⟨fld p n', _, conc_arr (fldC_of rfl rfl), by exact zD, rfl, rfl⟩
/-- (*impl.Hopf).field -/
def ir49 : Cd := (.seq (.reg [⟨some 2,none,.new 85 [(2,(.int .i64 0))]⟩]) (.seq (.drw true [9] [⟨some 3,none,.mov (.t 0)⟩,⟨some 4,none,.ck (.t 3)⟩,⟨some 5,none,.fa 0 (.t 4)⟩,⟨some 6,none,.ld none (.t 5)⟩,⟨some 7,none,.mov (.t 0)⟩,⟨some 8,none,.ck (.t 7)⟩,⟨some 9,none,.fa 1 (.t 8)⟩,⟨some 10,none,.ld none (.t 9)⟩,⟨some 11,none,.build 2 [(2,(.int .i64 0))] [(0,1,(.t 6)),(1,1,(.t 10))]⟩,⟨none,none,.st 2 (.t 2) (.t 11)⟩]) .ret))
set_option maxRecDepth 100000 in
theorem tr49 : trFn Tryz.prog Tryz.f49 = some (12, ir49, [.cell (some 2) 2]) := by kernel_rfl
theorem Hopf_field (p n' : Int) (b : Nat) (K : Blk) (H : Hp) (n : Nat) (hb : H.get b = some K) (hsz : K.size = 1106) (h0 : K.c 0 = .int .i64 p) (h1 : K.c 1 = .int .i64 n')
    (hr : -9223372036854775808 ≤ p ∧ p ≤ 9223372036854775807 ∧ -9223372036854775808 ≤ n' ∧ n' ≤ 9223372036854775807) :
    FnS Tryz.prog 49 [ptr b 0] H n (fun r H' _ => r = fld p n' ∧ H' = H) := by
  refine FnS.of_body Tryz.func49 tr49 (by simp) (fun hf => ?_)
  dsimp only [argEnv]
  unfold ir49
  have hbn := getlt hf hb
  (repeat first|refine zG ?_|(refine LS.nilO ?_;intro nq hnq hltq;try refine zU ?_)|(refine MS.new ?_;intro bq hbq hbqf;try refine zU ?_)|(refine MS.nil ?_;intro nq hnq hltq;have hlq:=hltq _ _ (Hp.get_eq _ _ _);clear hltq;try refine zU ?_)|(refine LS.nilQ ?_;try with_reducible intro nq hnq;try refine zU ?_))
  exact ⟨fld p n', _, conc_arr (fldC_of rfl rfl), by exact zD, rfl, rfl⟩
/-- impl.pairs -/
def ir51 : Cd := (.seq (.reg [⟨some 7,none,.mov (.c (.int .i64 0))⟩]) (.block 0 (.loop (.seq (.reg [⟨some 8,none,.bin .lss (.t 7) (.c (.int .i64 8))⟩]) (.seq (.cond (.t 8) .skip (.exit 0)) (.seq (.block 1 (.seq (.reg [⟨some 9,none,.mov (.t 7)⟩,⟨some 4,none,.mov (.t 9)⟩]) (.seq (.reg [⟨some 10,none,.mov (.t 0)⟩,⟨some 11,none,.mov (.t 4)⟩,⟨some 12,none,.ck (.t 10)⟩,⟨some 13,none,.ia 8 8 (.t 12) (.t 11)⟩,⟨some 14,none,.ld (some 8) (.t 13)⟩,⟨some 15,none,.mov (.c (.int .i64 0))⟩]) (.block 2 (.loop (.seq (.reg [⟨some 16,none,.bin .lss (.t 15) (.c (.int .i64 8))⟩]) (.seq (.cond (.t 16) .skip (.exit 2)) (.seq (.block 3 (.seq (.reg [⟨some 17,none,.mov (.t 15)⟩,⟨some 18,none,.ix 8 1 none (.t 14) (.t 15)⟩,⟨some 5,none,.mov (.t 17)⟩,⟨some 6,none,.mov (.t 18)⟩]) (.seq (.reg [⟨some 19,none,.mov (.t 6)⟩,⟨some 20,none,.bin .neq (.t 19) (.c (.int .u8 0))⟩]) (.cond (.t 20) (.reg [⟨some 21,none,.mov (.t 1)⟩,⟨some 22,none,.mov (.t 4)⟩,⟨some 23,none,.mov (.t 5)⟩,⟨some 24,none,.mov (.t 6)⟩,⟨some 25,none,.cv .i64 (.t 24)⟩,⟨some 26,none,.callv (.t 21) [(.t 22),(.t 23),(.t 25)]⟩]) .skip)))) (.reg [⟨some 27,none,.bin .add (.t 15) (.c (.int .i64 1))⟩,⟨some 15,none,.mov (.t 27)⟩]))))))))) (.reg [⟨some 28,none,.bin .add (.t 7) (.c (.int .i64 1))⟩,⟨some 7,none,.mov (.t 28)⟩])))))))
set_option maxRecDepth 100000 in
theorem tr51 : trFn Tryz.prog Tryz.f51 = some (29, ir51, []) := by kernel_rfl
theorem impl_pairs (l : Nat → Int) (b o : Nat) (F : FuncId) (post : List SV) (M : Nat → Hp) (H : Hp) (n : Nat) (h0 : M 0 = H)
    (hb : ∀ t, t < 64 → ∃ K, (M t).get b = some K ∧ o + 64 ≤ K.size ∧ ∀ i, i < 64 → K.c (o + i) = .int .u8 (l i)) (hl : isBy 64 l) (hM : ∀ t : Nat, t < 64 → l t = 0 → M (t + 1) = M t)
    (hF : ∀ t j k n' : Nat, t < 64 → t = 8 * j + k → k < 8 → l t ≠ 0 → n ≤ n' → FnS Tryz.prog F ([i64 j, i64 k, i64 (l t)] ++ post.map .s) (M t) n' (fun _ H' _ => H' = M (t + 1))) :
    FnS Tryz.prog 51 [ptr b o, .s (.fn F [] post)] H n (fun _ H' _ => H' = M 64) := by
  subst h0
  refine FnS.of_body Tryz.func51 tr51 (by simp) (fun hf => ?_)
  dsimp only [argEnv]
  unfold ir51
  (repeat first|refine zG ?_|(refine LS.nilO ?_;intro nq hnq hltq;try refine zU ?_)|(refine MS.new ?_;intro bq hbq hbqf;try refine zU ?_)|(refine MS.nil ?_;intro nq hnq hltq;have hlq:=hltq _ _ (Hp.get_eq _ _ _);clear hltq;try refine zU ?_)|(refine LS.nilQ ?_;try with_reducible intro nq hnq;try refine zU ?_))
  refine CS.iter 8 (fun j => [(7, i64 j), (0, ptr b o), (1, .s (.fn F [] post))]) (fun j => M (8 * j)) (fun _ => True) (by (repeat first | exact trivial | refine And.intro rfl ?_)) (Drops.refl _ _) trivial ?_
  intro j n1 hj hn _
  (repeat first|refine zG ?_|(refine LS.nilO ?_;intro nq hnq hltq;try refine zU ?_)|(refine MS.new ?_;intro bq hbq hbqf;try refine zU ?_)|(refine MS.nil ?_;intro nq hnq hltq;have hlq:=hltq _ _ (Hp.get_eq _ _ _);clear hltq;try refine zU ?_)|(refine LS.nilQ ?_;try with_reducible intro nq hnq;try refine zU ?_))
  refine zI ?_ ?_<;>intro h2
  · obtain ⟨K, hK1, hK2, hK3⟩ := hb (8 * j) (by omega)
    (repeat first|refine zG ?_|(refine LS.nilO ?_;intro nq hnq hltq;try refine zU ?_)|(refine MS.new ?_;intro bq hbq hbqf;try refine zU ?_)|(refine MS.nil ?_;intro nq hnq hltq;have hlq:=hltq _ _ (Hp.get_eq _ _ _);clear hltq;try refine zU ?_)|(refine LS.nilQ ?_;try with_reducible intro nq hnq;try refine zU ?_))
    refine CS.iter 8 (fun k => [(15, i64 k), (14, .arr 8 (bys (fun x => l (8 * j + x)))), (4, i64 j), (7, i64 j), (0, ptr b o), (1, .s (.fn F [] post))]) (fun k => M (8 * j + k)) (fun _ => True) (by (repeat first | exact trivial | refine And.intro rfl ?_)) (Drops.refl _ _) trivial ?_
    intro k n2 hk hn2 _
    (repeat first|refine zG ?_|(refine LS.nilO ?_;intro nq hnq hltq;try refine zU ?_)|(refine MS.new ?_;intro bq hbq hbqf;try refine zU ?_)|(refine MS.nil ?_;intro nq hnq hltq;have hlq:=hltq _ _ (Hp.get_eq _ _ _);clear hltq;try refine zU ?_)|(refine LS.nilQ ?_;try with_reducible intro nq hnq;try refine zU ?_))
    refine zI ?_ ?_<;>intro h3
    · have hlk := hl (8 * j + k) (by omega)
      (repeat first|refine zG ?_|(refine LS.nilO ?_;intro nq hnq hltq;try refine zU ?_)|(refine MS.new ?_;intro bq hbq hbqf;try refine zU ?_)|(refine MS.nil ?_;intro nq hnq hltq;have hlq:=hltq _ _ (Hp.get_eq _ _ _);clear hltq;try refine zU ?_)|(refine LS.nilQ ?_;try with_reducible intro nq hnq;try refine zU ?_))
      refine CS.condN rfl (fun h4 => ?_) (fun h4 => ?_)
      · (repeat first|refine zG ?_|(refine LS.nilO ?_;intro nq hnq hltq;try refine zU ?_)|(refine MS.new ?_;intro bq hbq hbqf;try refine zU ?_)|(refine MS.nil ?_;intro nq hnq hltq;have hlq:=hltq _ _ (Hp.get_eq _ _ _);clear hltq;try refine zU ?_)|(refine LS.nilQ ?_;try with_reducible intro nq hnq;try refine zU ?_))
        refine RS.callv (f := F) (pre := []) (post := post) (vs := [i64 j, i64 k, i64 (l (8 * j + k))]) (by exact rfl) (by exact rfl) ?_
        refine FnS.mono (hF (8 * j + k) j k n2 (by omega) rfl (by omega) h4 (by omega)) ?_
        rintro r H n3 hn3 rfl
        (repeat first|refine zG ?_|(refine LS.nilO ?_;intro nq hnq hltq;try refine zU ?_)|(refine MS.new ?_;intro bq hbq hbqf;try refine zU ?_)|(refine MS.nil ?_;intro nq hnq hltq;have hlq:=hltq _ _ (Hp.get_eq _ _ _);clear hltq;try refine zU ?_)|(refine LS.nilQ ?_;try with_reducible intro nq hnq;try refine zU ?_))
        exact ⟨by omega, by (repeat first | exact trivial | refine And.intro rfl ?_), Drops.refl _ _, trivial⟩
      · (repeat first|refine zG ?_|(refine LS.nilO ?_;intro nq hnq hltq;try refine zU ?_)|(refine MS.new ?_;intro bq hbq hbqf;try refine zU ?_)|(refine MS.nil ?_;intro nq hnq hltq;have hlq:=hltq _ _ (Hp.get_eq _ _ _);clear hltq;try refine zU ?_)|(refine LS.nilQ ?_;try with_reducible intro nq hnq;try refine zU ?_))
        exact ⟨by omega, by (repeat first | exact trivial | refine And.intro rfl ?_), by rw [show 8 * j + (k + 1) = 8 * j + k + 1 by omega, hM _ (by omega) h4]; exact Drops.refl _ _, trivial⟩
    · have : k = 8 := by omega
      subst this
      (repeat first|refine zG ?_|(refine LS.nilO ?_;intro nq hnq hltq;try refine zU ?_)|(refine MS.new ?_;intro bq hbq hbqf;try refine zU ?_)|(refine MS.nil ?_;intro nq hnq hltq;have hlq:=hltq _ _ (Hp.get_eq _ _ _);clear hltq;try refine zU ?_)|(refine LS.nilQ ?_;try with_reducible intro nq hnq;try refine zU ?_))
      exact ⟨by omega, by (repeat first | exact trivial | refine And.intro rfl ?_), Drops.refl _ _, trivial⟩
  · have : j = 8 := by omega
    subst this
    (repeat first|refine zG ?_|(refine LS.nilO ?_;intro nq hnq hltq;try refine zU ?_)|(refine MS.new ?_;intro bq hbq hbqf;try refine zU ?_)|(refine MS.nil ?_;intro nq hnq hltq;have hlq:=hltq _ _ (Hp.get_eq _ _ _);clear hltq;try refine zU ?_)|(refine LS.nilQ ?_;try with_reducible intro nq hnq;try refine zU ?_))
    exact ⟨_, M 64, rfl, by exact zD, rfl⟩
/-- spec.l03Algebra -/
def ir28 : Cd := (.seq (.reg [⟨some 1,none,.box 35 (.t 0)⟩,⟨some 2,none,.new 61 [(2,(.int .i64 0)),(520,(.int .u8 0))]⟩]) (.seq (.reg [⟨some 3,none,.fa 0 (.t 1)⟩,⟨some 4,none,.ld none (.t 3)⟩,⟨some 5,none,.fa 1 (.t 1)⟩,⟨some 6,none,.ld none (.t 5)⟩,⟨some 7,none,.fa 2 (.t 1)⟩,⟨some 8,none,.ld (some 8) (.t 7)⟩,⟨some 9,none,.fa 10 (.t 1)⟩,⟨some 10,none,.ld (some 512) (.t 9)⟩,⟨some 11,none,.build 522 [(2,(.int .i64 0)),(520,(.int .u8 0))] [(0,1,(.t 4)),(1,1,(.t 6)),(2,8,(.t 8)),(10,512,(.t 10))]⟩,⟨none,none,.st 522 (.t 2) (.t 11)⟩]) .ret))
set_option maxRecDepth 100000 in
theorem tr28 : trFn Tryz.prog Tryz.f28 = some (12, ir28, [.cell (some 522) 2]) := by kernel_rfl
theorem spec_l03Algebra (K : Nat → SV) (h : HT) (H : Hp) (n : Nat) (hK : h.At K) :
    FnS Tryz.prog 28 [.arr 1106 K] H n (fun r H' _ => r = .arr 522 K ∧ H' = H) := by
  obtain ⟨k0, k1, k2, k3, k4, k5, k6⟩ := hK
  refine FnS.of_body Tryz.func28 tr28 (by simp) (fun hf => ?_)
  dsimp only [argEnv]
  unfold ir28
  (repeat first|refine zG ?_|(refine LS.nilO ?_;intro nq hnq hltq;try refine zU ?_)|(refine MS.new ?_;intro bq hbq hbqf;try refine zU ?_)|(refine MS.nil ?_;intro nq hnq hltq;have hlq:=hltq _ _ (Hp.get_eq _ _ _);clear hltq;try refine zU ?_)|(refine LS.nilQ ?_;try with_reducible intro nq hnq;try refine zU ?_))
  refine ⟨.arr 522 K, H, conc_arr (fun q hq => ?_), by exact zD, rfl, rfl⟩
  simp only [Nat.zero_add, splice, put1]
  by_cases e0 : q < 2
  · rw [if_neg (by omega), if_neg (by omega)]
    by_cases e1 : q = 1
    · subst e1; rw [if_pos rfl]; exact k1.symm
    · have : q = 0 := by omega
      subst this; rw [if_neg (by omega), if_pos rfl]; exact k0.symm
  by_cases e1 : q < 10
  · rw [if_neg (by omega), if_pos (by omega)]
    have := k2 (q - 2) (by omega)
    rw [show 2 + (q - 2) = q by omega] at this
    rw [this]; rfl
  · rw [if_pos (by omega)]
    have := k3 (q - 10) (by omega)
    rw [show 10 + (q - 10) = q by omega] at this
    rw [this]; rfl
/-- spec.l01Zero -/
def ir54 : Cd := (.seq (.reg [⟨some 1,none,.box 27 (.t 0)⟩,⟨some 2,none,.mov (.c (.bool false))⟩]) (.seq (.reg [⟨some 3,none,.ld (some 8) (.t 1)⟩,⟨some 4,none,.build 8 [(8,(.int .u8 0))] []⟩,⟨some 5,none,.eqa false 8 (.t 3) (.t 4)⟩,⟨some 2,none,.mov (.t 5)⟩]) .ret))
set_option maxRecDepth 100000 in
theorem tr54 : trFn Tryz.prog Tryz.f54 = some (6, ir54, [.tmp 2]) := by kernel_rfl
theorem spec_l01Zero (v : Nat → Int) (H : Hp) (n : Nat) :
    FnS Tryz.prog 54 [.arr 8 (bys v)] H n (fun r H' _ => r = bl (tb (∀ q, q < 8 → v q = 0)) ∧ H' = H) := by
  refine FnS.of_body Tryz.func54 tr54 (by simp) (fun hf => ?_)
  dsimp only [argEnv]
  unfold ir54
  (repeat first|refine zG ?_|(refine LS.nilO ?_;intro nq hnq hltq;try refine zU ?_)|(refine MS.new ?_;intro bq hbq hbqf;try refine zU ?_)|(refine MS.nil ?_;intro nq hnq hltq;have hlq:=hltq _ _ (Hp.get_eq _ _ _);clear hltq;try refine zU ?_)|(refine LS.nilQ ?_;try with_reducible intro nq hnq;try refine zU ?_))
  exact ⟨_, H, rfl, by exact zD, rfl, rfl⟩
/-- laws.eqVector -/
def ir14 : Cd := (.seq (.reg [⟨some 2,none,.box 27 (.t 0)⟩,⟨some 3,none,.box 27 (.t 1)⟩,⟨some 4,none,.mov (.c (.bool false))⟩]) (.seq (.seq (.reg [⟨some 5,none,.mov (.c (.int .i64 0))⟩]) (.block 0 (.loop (.seq (.seq (.reg [⟨some 6,none,.mov (.t 5)⟩,⟨some 7,none,.bin .lss (.t 6) (.c (.int .i64 8))⟩]) (.cond (.t 7) .skip (.exit 0))) (.seq (.block 1 (.seq (.drw true [] [⟨some 10,none,.mov (.t 5)⟩,⟨some 11,none,.ia 8 1 (.t 2) (.t 10)⟩,⟨some 12,none,.ld none (.t 11)⟩,⟨some 13,none,.mov (.t 5)⟩,⟨some 14,none,.ia 8 1 (.t 3) (.t 13)⟩,⟨some 15,none,.ld none (.t 14)⟩,⟨some 16,none,.bin .neq (.t 12) (.t 15)⟩]) (.cond (.t 16) (.seq (.reg [⟨some 4,none,.mov (.c (.bool false))⟩]) .ret) .skip))) (.reg [⟨some 8,none,.mov (.t 5)⟩,⟨some 9,none,.bin .add (.t 8) (.c (.int .i64 1))⟩,⟨some 5,none,.mov (.t 9)⟩])))))) (.seq (.reg [⟨some 4,none,.mov (.c (.bool true))⟩]) .ret)))
set_option maxRecDepth 100000 in
theorem tr14 : trFn Tryz.prog Tryz.f14 = some (17, ir14, [.tmp 4]) := by kernel_rfl
theorem laws_eqVector (f g : Nat → Int) (H : Hp) (n : Nat) :
    FnS Tryz.prog 14 [.arr 8 (bys f), .arr 8 (bys g)] H n (fun r H' _ => r = bl (tb (∀ q, q < 8 → f q = g q)) ∧ H' = H) := by
  refine FnS.of_body Tryz.func14 tr14 (by simp) (fun hf => ?_)
  dsimp only [argEnv]
  unfold ir14
  (repeat first|refine zG ?_|(refine LS.nilO ?_;intro nq hnq hltq;try refine zU ?_)|(refine MS.new ?_;intro bq hbq hbqf;try refine zU ?_)|(refine MS.nil ?_;intro nq hnq hltq;have hlq:=hltq _ _ (Hp.get_eq _ _ _);clear hltq;try refine zU ?_)|(refine LS.nilQ ?_;try with_reducible intro nq hnq;try refine zU ?_))
  refine CS.iter 8 (fun i => [(5, i64 i), (2, ptr n 0), (3, ptr (n + 1) 0)]) (fun _ => (n + 1, ⟨8, bys g, 27⟩) :: (n, ⟨8, bys f, 27⟩) :: H) (fun i => ∀ q, q < i → f q = g q) (by (repeat first | exact trivial | refine And.intro rfl ?_)) (by exact zD) (fun _ h => by omega) ?_
  intro i n1 hi hn hJ
  (repeat first|refine zG ?_|(refine LS.nilO ?_;intro nq hnq hltq;try refine zU ?_)|(refine MS.new ?_;intro bq hbq hbqf;try refine zU ?_)|(refine MS.nil ?_;intro nq hnq hltq;have hlq:=hltq _ _ (Hp.get_eq _ _ _);clear hltq;try refine zU ?_)|(refine LS.nilQ ?_;try with_reducible intro nq hnq;try refine zU ?_))
  refine zI ?_ ?_<;>intro h1
  · (repeat first|refine zG ?_|(refine LS.nilO ?_;intro nq hnq hltq;try refine zU ?_)|(refine MS.new ?_;intro bq hbq hbqf;try refine zU ?_)|(refine MS.nil ?_;intro nq hnq hltq;have hlq:=hltq _ _ (Hp.get_eq _ _ _);clear hltq;try refine zU ?_)|(refine LS.nilQ ?_;try with_reducible intro nq hnq;try refine zU ?_))
    refine zI ?_ ?_<;>intro h2
    · (repeat first|refine zG ?_|(refine LS.nilO ?_;intro nq hnq hltq;try refine zU ?_)|(refine MS.new ?_;intro bq hbq hbqf;try refine zU ?_)|(refine MS.nil ?_;intro nq hnq hltq;have hlq:=hltq _ _ (Hp.get_eq _ _ _);clear hltq;try refine zU ?_)|(refine LS.nilQ ?_;try with_reducible intro nq hnq;try refine zU ?_))
      exact ⟨_, H, rfl, by exact zD, by rw [tb_false (fun q => h2 (q i (by omega)))], rfl⟩
    · (repeat first|refine zG ?_|(refine LS.nilO ?_;intro nq hnq hltq;try refine zU ?_)|(refine MS.new ?_;intro bq hbq hbqf;try refine zU ?_)|(refine MS.nil ?_;intro nq hnq hltq;have hlq:=hltq _ _ (Hp.get_eq _ _ _);clear hltq;try refine zU ?_)|(refine LS.nilQ ?_;try with_reducible intro nq hnq;try refine zU ?_))
      refine ⟨by omega, by (repeat first | exact trivial | refine And.intro rfl ?_), by exact zD, fun q hq => ?_⟩
      by_cases e : q = i
      · subst e; exact h2
      · exact hJ q (by omega)
  · have : i = 8 := by omega
    subst this
    (repeat first|refine zG ?_|(refine LS.nilO ?_;intro nq hnq hltq;try refine zU ?_)|(refine MS.new ?_;intro bq hbq hbqf;try refine zU ?_)|(refine MS.nil ?_;intro nq hnq hltq;have hlq:=hltq _ _ (Hp.get_eq _ _ _);clear hltq;try refine zU ?_)|(refine LS.nilQ ?_;try with_reducible intro nq hnq;try refine zU ?_))
    exact ⟨_, H, rfl, by exact zD, by rw [tb_true hJ], rfl⟩
/-- impl.first -/
def ir39 : Cd := (.seq (.reg [⟨some 2,none,.mov (.c (.int .i64 0))⟩]) (.seq (.seq (.reg [⟨some 5,none,.mov (.t 0)⟩,⟨some 6,none,.len (.t 5)⟩,⟨some 7,none,.mov (.c (.int .i64 0))⟩]) (.block 0 (.loop (.seq (.reg [⟨some 8,none,.bin .lss (.t 7) (.t 6)⟩]) (.seq (.cond (.t 8) .skip (.exit 0)) (.seq (.block 1 (.seq (.reg [⟨some 9,none,.isl 1 (.t 5) (.t 7)⟩,⟨some 10,none,.ld none (.t 9)⟩,⟨some 4,none,.mov (.t 10)⟩]) (.seq (.reg [⟨some 11,none,.mov (.t 4)⟩,⟨some 12,none,.bin .neq (.t 11) (.c (.int .i64 0))⟩]) (.cond (.t 12) (.seq (.reg [⟨some 13,none,.mov (.t 4)⟩,⟨some 2,none,.mov (.t 13)⟩]) .ret) .skip)))) (.reg [⟨some 14,none,.bin .add (.t 7) (.c (.int .i64 1))⟩,⟨some 7,none,.mov (.t 14)⟩]))))))) (.seq (.reg [⟨some 2,none,.mov (.c (.int .i64 0))⟩]) .ret)))
set_option maxRecDepth 100000 in
theorem tr39 : trFn Tryz.prog Tryz.f39 = some (15, ir39, [.tmp 2]) := by kernel_rfl
theorem impl_first (v : SV) (len : Nat) (hl : len ≤ 1000) (w : Nat → Int) (H : Hp) (n : Nat) (hv : lsi H v len w) :
    FnS Tryz.prog 39 [.s v] H n (fun r H' _ => r = i64 (fstz w len) ∧ H' = H) := by
  obtain ⟨b, c, K, rfl, hb, hs, hc⟩ := hv
  refine FnS.of_body Tryz.func39 tr39 (by simp) (fun hf => ?_)
  dsimp only [argEnv]
  unfold ir39
  have hbn := getlt hf hb
  (repeat first|refine zG ?_|(refine LS.nilO ?_;intro nq hnq hltq;try refine zU ?_)|(refine MS.new ?_;intro bq hbq hbqf;try refine zU ?_)|(refine MS.nil ?_;intro nq hnq hltq;have hlq:=hltq _ _ (Hp.get_eq _ _ _);clear hltq;try refine zU ?_)|(refine LS.nilQ ?_;try with_reducible intro nq hnq;try refine zU ?_))
  refine CS.iter len (fun i => [(7, i64 i), (6, i64 len), (5, .s (.slc b 0 len c))]) (fun _ => H) (fun i => Zw w i) (by (repeat first | exact trivial | refine And.intro rfl ?_)) (by exact zD) ⟨fun j hj => by omega⟩ ?_
  intro i n1 hi hn1 hJ
  (repeat first|refine zG ?_|(refine LS.nilO ?_;intro nq hnq hltq;try refine zU ?_)|(refine MS.new ?_;intro bq hbq hbqf;try refine zU ?_)|(refine MS.nil ?_;intro nq hnq hltq;have hlq:=hltq _ _ (Hp.get_eq _ _ _);clear hltq;try refine zU ?_)|(refine LS.nilQ ?_;try with_reducible intro nq hnq;try refine zU ?_))
  refine zI ?_ ?_<;>intro h1
  · have hci := hc i (by omega)
    rw [show i = 0 + i * 1 by omega] at hci
    (repeat first|refine zG ?_|(refine LS.nilO ?_;intro nq hnq hltq;try refine zU ?_)|(refine MS.new ?_;intro bq hbq hbqf;try refine zU ?_)|(refine MS.nil ?_;intro nq hnq hltq;have hlq:=hltq _ _ (Hp.get_eq _ _ _);clear hltq;try refine zU ?_)|(refine LS.nilQ ?_;try with_reducible intro nq hnq;try refine zU ?_))
    refine zI ?_ ?_<;>intro h2
    · (repeat first|refine zG ?_|(refine LS.nilO ?_;intro nq hnq hltq;try refine zU ?_)|(refine MS.new ?_;intro bq hbq hbqf;try refine zU ?_)|(refine MS.nil ?_;intro nq hnq hltq;have hlq:=hltq _ _ (Hp.get_eq _ _ _);clear hltq;try refine zU ?_)|(refine LS.nilQ ?_;try with_reducible intro nq hnq;try refine zU ?_))
      exact ⟨_, H, by rw [fstz_hit len w i (by omega) hJ.h (by simpa using h2), show 0 + i * 1 = i by omega], by exact zD, rfl, rfl⟩
    · (repeat first|refine zG ?_|(refine LS.nilO ?_;intro nq hnq hltq;try refine zU ?_)|(refine MS.new ?_;intro bq hbq hbqf;try refine zU ?_)|(refine MS.nil ?_;intro nq hnq hltq;have hlq:=hltq _ _ (Hp.get_eq _ _ _);clear hltq;try refine zU ?_)|(refine LS.nilQ ?_;try with_reducible intro nq hnq;try refine zU ?_))
      refine ⟨by omega, by (repeat first | exact trivial | refine And.intro rfl ?_), by exact zD, ⟨fun j hj => ?_⟩⟩
      by_cases e : j = i
      · subst e; simpa using h2
      · exact hJ.h j (by omega)
  · obtain rfl : i = len := by omega
    (repeat first|refine zG ?_|(refine LS.nilO ?_;intro nq hnq hltq;try refine zU ?_)|(refine MS.new ?_;intro bq hbq hbqf;try refine zU ?_)|(refine MS.nil ?_;intro nq hnq hltq;have hlq:=hltq _ _ (Hp.get_eq _ _ _);clear hltq;try refine zU ?_)|(refine LS.nilQ ?_;try with_reducible intro nq hnq;try refine zU ?_))
    exact ⟨_, H, by rw [fstz_none i w hJ.h], by exact zD, rfl, rfl⟩
end Go.Proofs.YtbknndbfbebkdabGreatR
