/- Contracts of the program's functions. -/
import Derived.Test.YtbknndbfbebkdabGreatRR
import Derived.Test.YtbknndbfbebkdabGreatRLW
import Derived.Test.YtbknndbfbebkdabGreatRE00
namespace Go.Proofs.YtbknndbfbebkdabGreatR
open Go.V
set_option linter.unusedSimpArgs false
set_option linter.unusedVariables false
set_option maxHeartbeats 4000000
/-- impl.basis -/
def ir34 : Cd := (.seq (.reg [⟨some 2,none,.new 27 [(8,(.int .u8 0))]⟩]) (.seq (.reg [⟨some 4,none,.build 8 [(8,(.int .u8 0))] []⟩,⟨some 3,none,.new 27 [(8,(.int .u8 0))]⟩,⟨none,none,.st 8 (.t 3) (.t 4)⟩]) (.seq (.reg [⟨some 5,none,.mov (.t 0)⟩,⟨some 6,none,.ia 8 1 (.t 3) (.t 5)⟩,⟨none,none,.st 1 (.t 6) (.c (.int .u8 1))⟩]) (.seq (.reg [⟨some 7,none,.ld (some 8) (.t 3)⟩,⟨none,none,.st 8 (.t 2) (.t 7)⟩]) .ret))))
set_option maxRecDepth 100000 in
theorem tr34 : trFn Tryz.prog Tryz.f34 = some (8, ir34, [.cell (some 8) 2]) := by kernel_rfl
theorem impl_basis (i : Nat) (H : Hp) (n : Nat) (hi : i < 8) :
    FnS Tryz.prog 34 [i64 i] H n (fun r H' _ => r = .arr 8 (bys (bas i)) ∧ H' = H) := by
  refine FnS.of_body Tryz.func34 tr34 (by simp) (fun hf => ?_)
  dsimp only [argEnv]
  unfold ir34
  (repeat first|refine zG ?_|(refine LS.nilO ?_;intro nq hnq hltq;try refine zU ?_)|(refine MS.new ?_;intro bq hbq hbqf;try refine zU ?_)|(refine MS.nil ?_;intro nq hnq hltq;have hlq:=hltq _ _ (Hp.get_eq _ _ _);clear hltq;try refine zU ?_)|(refine LS.nilQ ?_;try with_reducible intro nq hnq;try refine zU ?_))
  exact ⟨.arr 8 (bys (bas i)), H, conc_arr (fun q hq => by simp only [Nat.zero_add, put1, bys, bas]; split <;> rfl), by exact zD, rfl, rfl⟩
/-- (*impl.Algebra).field -/
def ir137 : Cd := (.seq (.reg [⟨some 2,none,.new 85 [(2,(.int .i64 0))]⟩]) (.seq (.drw true [9] [⟨some 3,none,.mov (.t 0)⟩,⟨some 4,none,.ck (.t 3)⟩,⟨some 5,none,.fa 0 (.t 4)⟩,⟨some 6,none,.ld none (.t 5)⟩,⟨some 7,none,.mov (.t 0)⟩,⟨some 8,none,.ck (.t 7)⟩,⟨some 9,none,.fa 1 (.t 8)⟩,⟨some 10,none,.ld none (.t 9)⟩,⟨some 11,none,.build 2 [(2,(.int .i64 0))] [(0,1,(.t 6)),(1,1,(.t 10))]⟩,⟨none,none,.st 2 (.t 2) (.t 11)⟩]) .ret))
set_option maxRecDepth 100000 in
theorem tr137 : trFn Tryz.prog Tryz.f137 = some (12, ir137, [.cell (some 2) 2]) := by kernel_rfl
theorem Algebra_field (p n' : Int) (b : Nat) (K : Blk) (H : Hp) (n : Nat) (hb : H.get b = some K) (hsz : K.size = 522) (h0 : K.c 0 = .int .i64 p) (h1 : K.c 1 = .int .i64 n')
    (hr : -9223372036854775808 ≤ p ∧ p ≤ 9223372036854775807 ∧ -9223372036854775808 ≤ n' ∧ n' ≤ 9223372036854775807) :
    FnS Tryz.prog 137 [ptr b 0] H n (fun r H' _ => r = fld p n' ∧ H' = H) := by
  refine FnS.of_body Tryz.func137 tr137 (by simp) (fun hf => ?_)
  dsimp only [argEnv]
  unfold ir137
  have hbn := getlt hf hb
  (repeat first|refine zG ?_|(refine LS.nilO ?_;intro nq hnq hltq;try refine zU ?_)|(refine MS.new ?_;intro bq hbq hbqf;try refine zU ?_)|(refine MS.nil ?_;intro nq hnq hltq;have hlq:=hltq _ _ (Hp.get_eq _ _ _);clear hltq;try refine zU ?_)|(refine LS.nilQ ?_;try with_reducible intro nq hnq;try refine zU ?_))
  exact ⟨fld p n', _, conc_arr (fldC_of rfl rfl), by exact zD, rfl, rfl⟩
/-- (*impl.Hopf).coalgebra -/
def ir102 : Cd := (.seq (.reg [⟨some 2,none,.mov (.c .nil)⟩]) (.seq (.drw true [17] [⟨some 3,none,.mov (.t 0)⟩,⟨some 4,none,.ck (.t 3)⟩,⟨some 5,none,.fa 0 (.t 4)⟩,⟨some 6,none,.ld none (.t 5)⟩,⟨some 7,none,.mov (.t 0)⟩,⟨some 8,none,.ck (.t 7)⟩,⟨some 9,none,.fa 1 (.t 8)⟩,⟨some 10,none,.ld none (.t 9)⟩,⟨some 11,none,.mov (.t 0)⟩,⟨some 12,none,.ck (.t 11)⟩,⟨some 13,none,.fa 522 (.t 12)⟩,⟨some 14,none,.ld (some 8) (.t 13)⟩,⟨some 15,none,.mov (.t 0)⟩,⟨some 16,none,.ck (.t 15)⟩,⟨some 17,none,.fa 530 (.t 16)⟩,⟨some 18,none,.ld (some 512) (.t 17)⟩,⟨some 19,none,.build 522 [(2,(.int .i64 0)),(520,(.int .u8 0))] [(0,1,(.t 6)),(1,1,(.t 10)),(2,8,(.t 14)),(10,512,(.t 18))]⟩,⟨some 20,none,.box 46 (.t 19)⟩,⟨some 2,none,.mov (.t 20)⟩]) .ret))
set_option maxRecDepth 100000 in
theorem tr102 : trFn Tryz.prog Tryz.f102 = some (21, ir102, [.tmp 2]) := by kernel_rfl
theorem Hopf_coalgebra (h : HT) (b : Nat) (K : Blk) (H : Hp) (n : Nat) (hb : H.get b = some K) (hsz : K.size = 1106) (hK : h.At K.c) :
    FnS Tryz.prog 102 [ptr b 0] H n (newAlg 46 h.p h.n h.e h.c n H) := by
  obtain ⟨k0, k1, k2, k3, k4, k5, k6⟩ := hK
  refine FnS.of_body Tryz.func102 tr102 (by simp) (fun hf => ?_)
  dsimp only [argEnv]
  unfold ir102
  have hbn := getlt hf hb
  (repeat first|refine zG ?_|(refine LS.nilO ?_;intro nq hnq hltq;try refine zU ?_)|(refine MS.new ?_;intro bq hbq hbqf;try refine zU ?_)|(refine MS.nil ?_;intro nq hnq hltq;have hlq:=hltq _ _ (Hp.get_eq _ _ _);clear hltq;try refine zU ?_)|(refine LS.nilQ ?_;try with_reducible intro nq hnq;try refine zU ?_))
  refine ⟨ptr nq 0, _, rfl, Drops.refl _ _, nq, _, rfl, hnq, by omega, rfl, ?_, ?_, fun q hq => ?_, fun q hq => ?_⟩
  · simp [splice, put1]
  · simp [splice, put1]
  · simp only [splice]
    rw [if_neg (by omega), if_pos (by omega), Nat.add_sub_cancel_left]
    rfl
  · simp only [splice]
    rw [if_pos (by omega), Nat.add_sub_cancel_left]
    rfl
/-- impl.unless -/
def ir40 : Cd := (.seq (.reg [⟨some 4,none,.mov (.c (.int .i64 0))⟩]) (.seq (.seq (.reg [⟨some 5,none,.mov (.t 0)⟩]) (.cond (.t 5) (.seq (.reg [⟨some 4,none,.mov (.c (.int .i64 0))⟩]) .ret) .skip)) (.seq (.reg [⟨some 6,none,.mov (.t 1)⟩,⟨some 4,none,.mov (.t 6)⟩]) .ret)))
set_option maxRecDepth 100000 in
theorem tr40 : trFn Tryz.prog Tryz.f40 = some (7, ir40, [.tmp 4]) := by kernel_rfl
theorem impl_unless (Q : Prop) (H : Hp) (n : Nat) :
    FnS Tryz.prog 40 [bl (tb Q), i64 1] H n (fun r H' _ => r = i64 (cd Q) ∧ H' = H) := by
  refine FnS.of_body Tryz.func40 tr40 (by simp) (fun hf => ?_)
  dsimp only [argEnv]
  unfold ir40
  (repeat first|refine zG ?_|(refine LS.nilO ?_;intro nq hnq hltq;try refine zU ?_)|(refine MS.new ?_;intro bq hbq hbqf;try refine zU ?_)|(refine MS.nil ?_;intro nq hnq hltq;have hlq:=hltq _ _ (Hp.get_eq _ _ _);clear hltq;try refine zU ?_)|(refine LS.nilQ ?_;try with_reducible intro nq hnq;try refine zU ?_))
  refine zI ?_ ?_<;>intro h1
  · (repeat first|refine zG ?_|(refine LS.nilO ?_;intro nq hnq hltq;try refine zU ?_)|(refine MS.new ?_;intro bq hbq hbqf;try refine zU ?_)|(refine MS.nil ?_;intro nq hnq hltq;have hlq:=hltq _ _ (Hp.get_eq _ _ _);clear hltq;try refine zU ?_)|(refine LS.nilQ ?_;try with_reducible intro nq hnq;try refine zU ?_))
    exact ⟨_, H, rfl, by exact zD, by rw [cd_true h1], rfl⟩
  · (repeat first|refine zG ?_|(refine LS.nilO ?_;intro nq hnq hltq;try refine zU ?_)|(refine MS.new ?_;intro bq hbq hbqf;try refine zU ?_)|(refine MS.nil ?_;intro nq hnq hltq;have hlq:=hltq _ _ (Hp.get_eq _ _ _);clear hltq;try refine zU ?_)|(refine LS.nilQ ?_;try with_reducible intro nq hnq;try refine zU ?_))
    exact ⟨_, H, rfl, by exact zD, by rw [cd_false h1], rfl⟩
/-- laws.toVector -/
def ir22 : Cd := (.seq (.reg [⟨some 1,none,.box 22 (.t 0)⟩,⟨some 2,none,.new 27 [(8,(.int .u8 0))]⟩]) (.seq (.reg [⟨some 3,none,.new 27 [(8,(.int .u8 0))]⟩]) (.seq (.seq (.reg [⟨some 4,none,.mov (.c (.int .i64 0))⟩]) (.block 0 (.loop (.seq (.seq (.reg [⟨some 5,none,.mov (.t 4)⟩,⟨some 6,none,.bin .lss (.t 5) (.c (.int .i64 8))⟩]) (.cond (.t 6) .skip (.exit 0))) (.seq (.block 1 (.reg [⟨some 9,none,.mov (.t 4)⟩,⟨some 10,none,.mov (.t 4)⟩,⟨some 11,none,.ia 8 1 (.t 1) (.t 10)⟩,⟨some 12,none,.ld none (.t 11)⟩,⟨some 13,none,.ia 8 1 (.t 3) (.t 9)⟩,⟨none,none,.st 1 (.t 13) (.t 12)⟩])) (.reg [⟨some 7,none,.mov (.t 4)⟩,⟨some 8,none,.bin .add (.t 7) (.c (.int .i64 1))⟩,⟨some 4,none,.mov (.t 8)⟩])))))) (.seq (.reg [⟨some 14,none,.ld (some 8) (.t 3)⟩,⟨none,none,.st 8 (.t 2) (.t 14)⟩]) .ret))))
set_option maxRecDepth 100000 in
theorem tr22 : trFn Tryz.prog Tryz.f22 = some (15, ir22, [.cell (some 8) 2]) := by kernel_rfl
theorem laws_toVector (v : Nat → Int) (H : Hp) (n : Nat) :
    FnS Tryz.prog 22 [.arr 8 (bys v)] H n (fun r H' _ => r = .arr 8 (bys v) ∧ H' = H) := by
  refine FnS.of_body Tryz.func22 tr22 (by simp) (fun hf => ?_)
  dsimp only [argEnv]
  unfold ir22
  (repeat first|refine zG ?_|(refine LS.nilO ?_;intro nq hnq hltq;try refine zU ?_)|(refine MS.new ?_;intro bq hbq hbqf;try refine zU ?_)|(refine MS.nil ?_;intro nq hnq hltq;have hlq:=hltq _ _ (Hp.get_eq _ _ _);clear hltq;try refine zU ?_)|(refine LS.nilQ ?_;try with_reducible intro nq hnq;try refine zU ?_))
  refine CS.iter 8 (fun i => [(4, i64 i), (1, ptr n 0), (2, ptr (n + 1) 0), (3, ptr (n + 2) 0)])
    (fun i => (n + 2, ⟨8, bys (cellsTo v i), 27⟩) :: (n + 1, ⟨8, bys (fun _ => 0), 27⟩) :: (n, ⟨8, bys v, 22⟩) :: H) (fun _ => True) (by (repeat first | exact trivial | refine And.intro rfl ?_))
    (Drops.keepc rfl rfl (fun _ _ => by rw [cellsTo_zero]; rfl) (Drops.keepc rfl rfl (fun _ _ => rfl) (Drops.refl _ _))) trivial ?_
  intro i n1 hi hn _
  have hk : ∀ q, q < 8 → (bys v) q = .int .u8 (v q) := fun q hq => rfl
  (repeat first|refine zG ?_|(refine LS.nilO ?_;intro nq hnq hltq;try refine zU ?_)|(refine MS.new ?_;intro bq hbq hbqf;try refine zU ?_)|(refine MS.nil ?_;intro nq hnq hltq;have hlq:=hltq _ _ (Hp.get_eq _ _ _);clear hltq;try refine zU ?_)|(refine LS.nilQ ?_;try with_reducible intro nq hnq;try refine zU ?_))
  refine zI ?_ ?_<;>intro h1
  · (repeat first|refine zG ?_|(refine LS.nilO ?_;intro nq hnq hltq;try refine zU ?_)|(refine MS.new ?_;intro bq hbq hbqf;try refine zU ?_)|(refine MS.nil ?_;intro nq hnq hltq;have hlq:=hltq _ _ (Hp.get_eq _ _ _);clear hltq;try refine zU ?_)|(refine LS.nilQ ?_;try with_reducible intro nq hnq;try refine zU ?_))
    exact ⟨by omega, by (repeat first | exact trivial | refine And.intro rfl ?_), Drops.keepc rfl rfl (fun q hq => cellsTo_step v i q) (Drops.refl _ _), trivial⟩
  · have : i = 8 := by omega
    subst this
    (repeat first|refine zG ?_|(refine LS.nilO ?_;intro nq hnq hltq;try refine zU ?_)|(refine MS.new ?_;intro bq hbq hbqf;try refine zU ?_)|(refine MS.nil ?_;intro nq hnq hltq;have hlq:=hltq _ _ (Hp.get_eq _ _ _);clear hltq;try refine zU ?_)|(refine LS.nilQ ?_;try with_reducible intro nq hnq;try refine zU ?_))
    exact ⟨.arr 8 (bys v), H, conc_arr (fun q hq => by simp only [Nat.zero_add, bys, cellsTo]; rw [if_pos hq]), by exact zD, rfl, rfl⟩
/-- impl.transposed -/
def ir60 : Cd := (.seq (.reg [⟨some 2,none,.new 29 [(64,(.int .u8 0))]⟩]) (.seq (.reg [⟨some 6,none,.build 64 [(64,(.int .u8 0))] []⟩,⟨some 3,none,.new 29 [(64,(.int .u8 0))]⟩,⟨none,none,.st 64 (.t 3) (.t 6)⟩]) (.seq (.seq (.reg [⟨some 7,none,.mov (.c (.int .i64 0))⟩]) (.block 0 (.loop (.seq (.reg [⟨some 8,none,.bin .lss (.t 7) (.c (.int .i64 8))⟩]) (.seq (.cond (.t 8) .skip (.exit 0)) (.seq (.block 1 (.seq (.reg [⟨some 9,none,.mov (.t 7)⟩,⟨some 4,none,.mov (.t 9)⟩]) (.seq (.reg [⟨some 10,none,.mov (.c (.int .i64 0))⟩]) (.block 2 (.loop (.seq (.reg [⟨some 11,none,.bin .lss (.t 10) (.c (.int .i64 8))⟩]) (.seq (.cond (.t 11) .skip (.exit 2)) (.seq (.block 3 (.seq (.reg [⟨some 12,none,.mov (.t 10)⟩,⟨some 5,none,.mov (.t 12)⟩]) (.drw true [11] [⟨some 13,none,.mov (.t 4)⟩,⟨some 14,none,.mov (.t 5)⟩,⟨some 15,none,.mov (.t 0)⟩,⟨some 16,none,.mov (.t 5)⟩,⟨some 17,none,.mov (.t 4)⟩,⟨some 18,none,.ck (.t 15)⟩,⟨some 19,none,.ia 8 8 (.t 18) (.t 16)⟩,⟨some 20,none,.ia 8 1 (.t 19) (.t 17)⟩,⟨some 21,none,.ld none (.t 20)⟩,⟨some 22,none,.ia 8 8 (.t 3) (.t 13)⟩,⟨some 23,none,.ia 8 1 (.t 22) (.t 14)⟩,⟨none,none,.st 1 (.t 23) (.t 21)⟩]))) (.reg [⟨some 24,none,.bin .add (.t 10) (.c (.int .i64 1))⟩,⟨some 10,none,.mov (.t 24)⟩]))))))))) (.reg [⟨some 25,none,.bin .add (.t 7) (.c (.int .i64 1))⟩,⟨some 7,none,.mov (.t 25)⟩]))))))) (.seq (.reg [⟨some 26,none,.ld (some 64) (.t 3)⟩,⟨none,none,.st 64 (.t 2) (.t 26)⟩]) .ret))))
set_option maxRecDepth 100000 in
theorem tr60 : trFn Tryz.prog Tryz.f60 = some (27, ir60, [.cell (some 64) 2]) := by kernel_rfl
theorem impl_transposed (s : Nat → Int) (b o : Nat) (K : Blk) (H : Hp) (n : Nat) (hb : H.get b = some K) (ho : o + 64 ≤ K.size) (hc : ∀ i, i < 64 → K.c (o + i) = .int .u8 (s i)) :
    FnS Tryz.prog 60 [ptr b o] H n (fun r H' _ => r = .arr 64 (bys (trn s)) ∧ H' = H) := by
  refine FnS.of_body Tryz.func60 tr60 (by simp) (fun hf => ?_)
  dsimp only [argEnv]
  unfold ir60
  have hbn := getlt hf hb
  (repeat first|refine zG ?_|(refine LS.nilO ?_;intro nq hnq hltq;try refine zU ?_)|(refine MS.new ?_;intro bq hbq hbqf;try refine zU ?_)|(refine MS.nil ?_;intro nq hnq hltq;have hlq:=hltq _ _ (Hp.get_eq _ _ _);clear hltq;try refine zU ?_)|(refine LS.nilQ ?_;try with_reducible intro nq hnq;try refine zU ?_))
  refine CS.iter 8 (fun i => [(7, i64 i), (0, ptr b o), (2, ptr n 0), (3, ptr (n + 1) 0)])
    (fun i => (n + 1, ⟨64, bys (cellsTo (trn s) (8 * i)), 29⟩) :: (n, ⟨64, bys (fun _ => 0), 29⟩) :: H) (fun _ => True) (by (repeat first | exact trivial | refine And.intro rfl ?_))
    (Drops.keepc rfl rfl (fun _ _ => by rw [show cellsTo (trn s) (8 * 0) = fun _ => 0 from cellsTo_zero _]; rfl) (Drops.keepc rfl rfl (fun _ _ => rfl) (Drops.refl _ _))) trivial ?_
  intro i n1 hi hn _
  (repeat first|refine zG ?_|(refine LS.nilO ?_;intro nq hnq hltq;try refine zU ?_)|(refine MS.new ?_;intro bq hbq hbqf;try refine zU ?_)|(refine MS.nil ?_;intro nq hnq hltq;have hlq:=hltq _ _ (Hp.get_eq _ _ _);clear hltq;try refine zU ?_)|(refine LS.nilQ ?_;try with_reducible intro nq hnq;try refine zU ?_))
  refine zI ?_ ?_<;>intro h1
  · (repeat first|refine zG ?_|(refine LS.nilO ?_;intro nq hnq hltq;try refine zU ?_)|(refine MS.new ?_;intro bq hbq hbqf;try refine zU ?_)|(refine MS.nil ?_;intro nq hnq hltq;have hlq:=hltq _ _ (Hp.get_eq _ _ _);clear hltq;try refine zU ?_)|(refine LS.nilQ ?_;try with_reducible intro nq hnq;try refine zU ?_))
    refine CS.iter 8 (fun j => [(10, i64 j), (4, i64 i), (7, i64 i), (0, ptr b o), (2, ptr n 0), (3, ptr (n + 1) 0)])
      (fun j => (n + 1, ⟨64, bys (cellsTo (trn s) (8 * i + j)), 29⟩) :: (n, ⟨64, bys (fun _ => 0), 29⟩) :: H) (fun _ => True) (by (repeat first | exact trivial | refine And.intro rfl ?_)) (Drops.refl _ _) trivial ?_
    intro j n2 hj hn2 _
    (repeat first|refine zG ?_|(refine LS.nilO ?_;intro nq hnq hltq;try refine zU ?_)|(refine MS.new ?_;intro bq hbq hbqf;try refine zU ?_)|(refine MS.nil ?_;intro nq hnq hltq;have hlq:=hltq _ _ (Hp.get_eq _ _ _);clear hltq;try refine zU ?_)|(refine LS.nilQ ?_;try with_reducible intro nq hnq;try refine zU ?_))
    refine zI ?_ ?_<;>intro h2
    · have he : s (8 * j + i) = trn s (8 * i + j) := by unfold trn; rw [show (8 * i + j) % 8 = j by omega, show (8 * i + j) / 8 = i by omega]
      (repeat first|refine zG ?_|(refine LS.nilO ?_;intro nq hnq hltq;try refine zU ?_)|(refine MS.new ?_;intro bq hbq hbqf;try refine zU ?_)|(refine MS.nil ?_;intro nq hnq hltq;have hlq:=hltq _ _ (Hp.get_eq _ _ _);clear hltq;try refine zU ?_)|(refine LS.nilQ ?_;try with_reducible intro nq hnq;try refine zU ?_))
      exact ⟨by omega, by (repeat first | exact trivial | refine And.intro rfl ?_), Drops.keepc rfl rfl (fun q hq => by rw [he]; exact cellsTo_step _ _ q) (Drops.refl _ _), trivial⟩
    · have : j = 8 := by omega
      subst this
      (repeat first|refine zG ?_|(refine LS.nilO ?_;intro nq hnq hltq;try refine zU ?_)|(refine MS.new ?_;intro bq hbq hbqf;try refine zU ?_)|(refine MS.nil ?_;intro nq hnq hltq;have hlq:=hltq _ _ (Hp.get_eq _ _ _);clear hltq;try refine zU ?_)|(refine LS.nilQ ?_;try with_reducible intro nq hnq;try refine zU ?_))
      exact ⟨by omega, by (repeat first | exact trivial | refine And.intro rfl ?_), Drops.refl _ _, trivial⟩
  · have : i = 8 := by omega
    subst this
    (repeat first|refine zG ?_|(refine LS.nilO ?_;intro nq hnq hltq;try refine zU ?_)|(refine MS.new ?_;intro bq hbq hbqf;try refine zU ?_)|(refine MS.nil ?_;intro nq hnq hltq;have hlq:=hltq _ _ (Hp.get_eq _ _ _);clear hltq;try refine zU ?_)|(refine LS.nilQ ?_;try with_reducible intro nq hnq;try refine zU ?_))
    exact ⟨.arr 64 (bys (trn s)), H, conc_arr (fun q hq => by simp only [Nat.zero_add, bys, cellsTo]; rw [if_pos (by omega)]), by exact zD, rfl, rfl⟩
/-- spec.l03Dual -/
def ir56 : Cd := (.seq (.reg [⟨some 1,none,.box 35 (.t 0)⟩,⟨some 2,none,.new 35 [(2,(.int .i64 0)),(1104,(.int .u8 0))]⟩]) (.seq (.reg [⟨some 8,none,.fa 1 (.t 1)⟩,⟨some 9,none,.ld none (.t 8)⟩,⟨some 3,none,.mov (.t 9)⟩]) (.seq (.reg [⟨some 10,none,.fa 0 (.t 1)⟩,⟨some 11,none,.ld none (.t 10)⟩,⟨some 12,none,.mov (.t 3)⟩,⟨some 13,none,.fa 522 (.t 1)⟩,⟨some 14,none,.ld (some 8) (.t 13)⟩,⟨some 15,none,.fa 2 (.t 1)⟩,⟨some 16,none,.ld (some 8) (.t 15)⟩,⟨some 17,none,.build 1106 [(2,(.int .i64 0)),(1104,(.int .u8 0))] [(0,1,(.t 11)),(1,1,(.t 12)),(2,8,(.t 14)),(522,8,(.t 16))]⟩,⟨some 4,none,.new 35 [(2,(.int .i64 0)),(1104,(.int .u8 0))]⟩,⟨none,none,.st 1106 (.t 4) (.t 17)⟩]) (.seq (.seq (.reg [⟨some 5,none,.mov (.c (.int .i64 0))⟩]) (.block 0 (.loop (.seq (.seq (.reg [⟨some 18,none,.mov (.t 5)⟩,⟨some 19,none,.mov (.t 3)⟩,⟨some 20,none,.bin .lss (.t 18) (.t 19)⟩]) (.cond (.t 20) .skip (.exit 0))) (.seq (.block 1 (.seq (.reg [⟨some 6,none,.mov (.c (.int .i64 0))⟩]) (.block 2 (.loop (.seq (.seq (.reg [⟨some 23,none,.mov (.t 6)⟩,⟨some 24,none,.mov (.t 3)⟩,⟨some 25,none,.bin .lss (.t 23) (.t 24)⟩]) (.cond (.t 25) .skip (.exit 2))) (.seq (.block 3 (.seq (.drw true [11] [⟨some 28,none,.mov (.t 5)⟩,⟨some 29,none,.mov (.t 6)⟩,⟨some 30,none,.mov (.t 6)⟩,⟨some 31,none,.mov (.t 5)⟩,⟨some 32,none,.fa 1042 (.t 1)⟩,⟨some 33,none,.ia 8 8 (.t 32) (.t 30)⟩,⟨some 34,none,.ia 8 1 (.t 33) (.t 31)⟩,⟨some 35,none,.ld none (.t 34)⟩,⟨some 36,none,.fa 1042 (.t 4)⟩,⟨some 37,none,.ia 8 8 (.t 36) (.t 28)⟩,⟨some 38,none,.ia 8 1 (.t 37) (.t 29)⟩,⟨none,none,.st 1 (.t 38) (.t 35)⟩]) (.seq (.reg [⟨some 7,none,.mov (.c (.int .i64 0))⟩]) (.block 4 (.loop (.seq (.seq (.reg [⟨some 39,none,.mov (.t 7)⟩,⟨some 40,none,.mov (.t 3)⟩,⟨some 41,none,.bin .lss (.t 39) (.t 40)⟩]) (.cond (.t 41) .skip (.exit 4))) (.seq (.block 5 (.seq (.drw true [15] [⟨some 44,none,.mov (.t 6)⟩,⟨some 45,none,.mov (.t 7)⟩,⟨some 46,none,.mov (.t 5)⟩,⟨some 47,none,.mov (.t 5)⟩,⟨some 48,none,.mov (.t 6)⟩,⟨some 49,none,.mov (.t 7)⟩,⟨some 50,none,.fa 530 (.t 1)⟩,⟨some 51,none,.ia 8 64 (.t 50) (.t 47)⟩,⟨some 52,none,.ia 8 8 (.t 51) (.t 48)⟩,⟨some 53,none,.ia 8 1 (.t 52) (.t 49)⟩,⟨some 54,none,.ld none (.t 53)⟩,⟨some 55,none,.fa 10 (.t 4)⟩,⟨some 56,none,.ia 8 64 (.t 55) (.t 44)⟩,⟨some 57,none,.ia 8 8 (.t 56) (.t 45)⟩,⟨some 58,none,.ia 8 1 (.t 57) (.t 46)⟩,⟨none,none,.st 1 (.t 58) (.t 54)⟩]) (.drw true [15] [⟨some 59,none,.mov (.t 5)⟩,⟨some 60,none,.mov (.t 6)⟩,⟨some 61,none,.mov (.t 7)⟩,⟨some 62,none,.mov (.t 6)⟩,⟨some 63,none,.mov (.t 7)⟩,⟨some 64,none,.mov (.t 5)⟩,⟨some 65,none,.fa 10 (.t 1)⟩,⟨some 66,none,.ia 8 64 (.t 65) (.t 62)⟩,⟨some 67,none,.ia 8 8 (.t 66) (.t 63)⟩,⟨some 68,none,.ia 8 1 (.t 67) (.t 64)⟩,⟨some 69,none,.ld none (.t 68)⟩,⟨some 70,none,.fa 530 (.t 4)⟩,⟨some 71,none,.ia 8 64 (.t 70) (.t 59)⟩,⟨some 72,none,.ia 8 8 (.t 71) (.t 60)⟩,⟨some 73,none,.ia 8 1 (.t 72) (.t 61)⟩,⟨none,none,.st 1 (.t 73) (.t 69)⟩]))) (.reg [⟨some 42,none,.mov (.t 7)⟩,⟨some 43,none,.bin .add (.t 42) (.c (.int .i64 1))⟩,⟨some 7,none,.mov (.t 43)⟩])))))))) (.reg [⟨some 26,none,.mov (.t 6)⟩,⟨some 27,none,.bin .add (.t 26) (.c (.int .i64 1))⟩,⟨some 6,none,.mov (.t 27)⟩]))))))) (.reg [⟨some 21,none,.mov (.t 5)⟩,⟨some 22,none,.bin .add (.t 21) (.c (.int .i64 1))⟩,⟨some 5,none,.mov (.t 22)⟩])))))) (.seq (.reg [⟨some 74,none,.ld (some 1106) (.t 4)⟩,⟨none,none,.st 1106 (.t 2) (.t 74)⟩]) .ret)))))
set_option maxRecDepth 100000 in
theorem tr56 : trFn Tryz.prog Tryz.f56 = some (75, ir56, [.cell (some 1106) 2]) := by kernel_rfl
theorem spec_l03Dual (h : HT) (a : Nat) (K : Nat → SV) (H : Hp) (n : Nat) (hS : HS h a) (hK : h.At K) (hB : h.By) :
    FnS Tryz.prog 56 [.arr 1106 K] H n (fun r H' _ => r = .arr 1106 (hopfC (dualT h)) ∧ H' = H) := by
  have hp := hS.hp
  have ha := hS.ha
  have hk0 := hK.p
  have hk1 := hK.n
  rw [hS.hn] at hk1
  have hk2 := hK.u
  have hk3 := hK.m
  have hk4 := hK.e
  have hk5 := hK.c
  have hk6 := hK.s
  refine FnS.of_body Tryz.func56 tr56 (by simp) (fun hf => ?_)
  dsimp only [argEnv]
  unfold ir56
  (repeat first|refine zG ?_|(refine LS.nilO ?_;intro nq hnq hltq;try refine zU ?_)|(refine MS.new ?_;intro bq hbq hbqf;try refine zU ?_)|(refine MS.nil ?_;intro nq hnq hltq;have hlq:=hltq _ _ (Hp.get_eq _ _ _);clear hltq;try refine zU ?_)|(refine LS.nilQ ?_;try with_reducible intro nq hnq;try refine zU ?_))
  refine CS.iter a (fun i => [(5, i64 i), (3, i64 a), (1, ptr n 0), (2, ptr (n + 1) 0), (4, ptr (n + 2) 0)])
    (fun i => (n + 2, ⟨1106, hopfC (dS h (64 * i) (64 * i) (8 * i)), 35⟩) :: (n + 1, ⟨1106, Zs.c [(2, .int .i64 0), (1104, .int .u8 0)], 35⟩) :: (n, ⟨1106, K, 35⟩) :: H) (fun _ => True) (by (repeat first | exact trivial | refine And.intro rfl ?_))
    (Drops.keepc rfl rfl (fun q hq => ?_) (Drops.keepc rfl rfl (fun _ _ => rfl) (Drops.refl _ _))) trivial ?_
  · rw [show dS h (64 * 0) (64 * 0) (8 * 0) = ⟨h.p, h.n, h.e, fun _ => 0, h.u, fun _ => 0, fun _ => 0⟩ by unfold dS; simp only [Nat.mul_zero, sel_zero]]
    have hz : ∀ q, q < 1106 → Zs.c [(2, SV.int IntKind.i64 0), (1104, SV.int IntKind.u8 0)] q = if q < 2 then .int .i64 0 else .int .u8 0 := fun q hq => rfl
    unfold hopfC hopfZ splice put1 bys
    (try dsimp only)
    rw [hz q hq, hS.hn]
    (repeat' split) <;> first | rfl | omega
  intro i n1 hi hn1 _
  (repeat first|refine zG ?_|(refine LS.nilO ?_;intro nq hnq hltq;try refine zU ?_)|(refine MS.new ?_;intro bq hbq hbqf;try refine zU ?_)|(refine MS.nil ?_;intro nq hnq hltq;have hlq:=hltq _ _ (Hp.get_eq _ _ _);clear hltq;try refine zU ?_)|(refine LS.nilQ ?_;try with_reducible intro nq hnq;try refine zU ?_))
  refine zI ?_ ?_<;>intro h2
  · (repeat first|refine zG ?_|(refine LS.nilO ?_;intro nq hnq hltq;try refine zU ?_)|(refine MS.new ?_;intro bq hbq hbqf;try refine zU ?_)|(refine MS.nil ?_;intro nq hnq hltq;have hlq:=hltq _ _ (Hp.get_eq _ _ _);clear hltq;try refine zU ?_)|(refine LS.nilQ ?_;try with_reducible intro nq hnq;try refine zU ?_))
    refine CS.iter a (fun j => [(6, i64 j), (5, i64 i), (3, i64 a), (1, ptr n 0), (2, ptr (n + 1) 0), (4, ptr (n + 2) 0)])
      (fun j => (n + 2, ⟨1106, hopfC (dS h (64 * i + 8 * j) (64 * i + 8 * j) (8 * i + j)), 35⟩) :: (n + 1, ⟨1106, Zs.c [(2, .int .i64 0), (1104, .int .u8 0)], 35⟩) :: (n, ⟨1106, K, 35⟩) :: H) (fun _ => True) (by (repeat first | exact trivial | refine And.intro rfl ?_)) (Drops.refl _ _) trivial ?_
    intro j n2 hj hn2 _
    (repeat first|refine zG ?_|(refine LS.nilO ?_;intro nq hnq hltq;try refine zU ?_)|(refine MS.new ?_;intro bq hbq hbqf;try refine zU ?_)|(refine MS.nil ?_;intro nq hnq hltq;have hlq:=hltq _ _ (Hp.get_eq _ _ _);clear hltq;try refine zU ?_)|(refine LS.nilQ ?_;try with_reducible intro nq hnq;try refine zU ?_))
    refine zI ?_ ?_<;>intro h3
    · (repeat first|refine zG ?_|(refine LS.nilO ?_;intro nq hnq hltq;try refine zU ?_)|(refine MS.new ?_;intro bq hbq hbqf;try refine zU ?_)|(refine MS.nil ?_;intro nq hnq hltq;have hlq:=hltq _ _ (Hp.get_eq _ _ _);clear hltq;try refine zU ?_)|(refine LS.nilQ ?_;try with_reducible intro nq hnq;try refine zU ?_))
      refine CS.iter a (fun k => [(7, i64 k), (6, i64 j), (5, i64 i), (3, i64 a), (1, ptr n 0), (2, ptr (n + 1) 0), (4, ptr (n + 2) 0)])
        (fun k => (n + 2, ⟨1106, hopfC (dS h (64 * i + 8 * j + k) (64 * i + 8 * j + k) (8 * i + j + 1)), 35⟩) :: (n + 1, ⟨1106, Zs.c [(2, .int .i64 0), (1104, .int .u8 0)], 35⟩) :: (n, ⟨1106, K, 35⟩) :: H) (fun _ => True) (by (repeat first | exact trivial | refine And.intro rfl ?_))
        (Drops.keepc rfl rfl (fun q hq => hopfC_ps (A := dS h (64 * i + 8 * j) (64 * i + 8 * j) (8 * i + j)) (f' := sel (fun q => q) (trn h.s) (8 * i + j + 1)) (by omega) (by
            unfold sel trn; dsimp only; rw [if_pos (by omega), show 8 * ((8 * i + j) % 8) + (8 * i + j) / 8 = 8 * j + i by omega]) (fun q q1 q2 => sel_id _ q2) hq) (Drops.refl _ _)) trivial ?_
      intro k n3 hk hn3 _
      (repeat first|refine zG ?_|(refine LS.nilO ?_;intro nq hnq hltq;try refine zU ?_)|(refine MS.new ?_;intro bq hbq hbqf;try refine zU ?_)|(refine MS.nil ?_;intro nq hnq hltq;have hlq:=hltq _ _ (Hp.get_eq _ _ _);clear hltq;try refine zU ?_)|(refine LS.nilQ ?_;try with_reducible intro nq hnq;try refine zU ?_))
      refine zI ?_ ?_<;>intro h4
      · (repeat first|refine zG ?_|(refine LS.nilO ?_;intro nq hnq hltq;try refine zU ?_)|(refine MS.new ?_;intro bq hbq hbqf;try refine zU ?_)|(refine MS.nil ?_;intro nq hnq hltq;have hlq:=hltq _ _ (Hp.get_eq _ _ _);clear hltq;try refine zU ?_)|(refine LS.nilQ ?_;try with_reducible intro nq hnq;try refine zU ?_))
        refine ⟨by omega, by (repeat first | exact trivial | refine And.intro rfl ?_), Drops.keepc rfl rfl (fun q hq => ?_) (Drops.refl _ _), trivial⟩
        refine (put1_cong (N := 1106) (fun q hq => hopfC_pm (A := dS h (64 * i + 8 * j + k) (64 * i + 8 * j + k) (8 * i + j + 1)) (f' := sel dRm (dm h.c) (64 * i + 8 * j + (k + 1))) (by omega) (by
            unfold sel dRm dm; rw [if_pos (by omega), show 64 * ((64 * j + 8 * k + i) % 8) + (64 * j + 8 * k + i) / 8 = 64 * i + 8 * j + k by omega]) (fun q q1 q2 => sel_R _ (fun e => q2 (by rw [dRm_eq] at e; have := rk_eq (by omega) (by omega) (by omega) (by omega) e; omega))) hq) hq).trans ?_
        exact hopfC_pc (A := { dS h (64 * i + 8 * j + k) (64 * i + 8 * j + k) (8 * i + j + 1) with m := sel dRm (dm h.c) (64 * i + 8 * j + (k + 1)) }) (f' := sel (fun q => q) (dc h.m) (64 * i + 8 * j + (k + 1))) (by omega) (by
            unfold sel dc; dsimp only; rw [if_pos (by omega), show 8 * ((64 * i + 8 * j + k) % 64) + (64 * i + 8 * j + k) / 64 = 64 * j + 8 * k + i by omega]) (fun q q1 q2 => sel_id _ q2) hq
      · obtain rfl : k = a := by omega
        (repeat first|refine zG ?_|(refine LS.nilO ?_;intro nq hnq hltq;try refine zU ?_)|(refine MS.new ?_;intro bq hbq hbqf;try refine zU ?_)|(refine MS.nil ?_;intro nq hnq hltq;have hlq:=hltq _ _ (Hp.get_eq _ _ _);clear hltq;try refine zU ?_)|(refine LS.nilQ ?_;try with_reducible intro nq hnq;try refine zU ?_))
        refine ⟨by omega, by (repeat first | exact trivial | refine And.intro rfl ?_), Drops.keepc rfl rfl (fun q hq => hopfC_same (A := dS h (64 * i + 8 * j + k) (64 * i + 8 * j + k) (8 * i + j + 1)) (B := dS h (64 * i + 8 * (j + 1)) (64 * i + 8 * (j + 1)) (8 * i + (j + 1))) ⟨rfl, rfl, fun _ _ => rfl, fun x hx => ?_, fun _ _ => rfl, fun x hx => ?_, fun x hx => rfl⟩ hq) (Drops.refl _ _), trivial⟩
        · show sel dRm (dm h.c) (64 * i + 8 * j + k) x = sel dRm (dm h.c) (64 * i + 8 * (j + 1)) x
          refine sel_more (by omega) (fun h1 h2 => ?_)
          rw [dRm_eq] at h1 h2; exact hS.dual.mm.z hx (.inr (.inl (rk_lo (j := j) (by omega) (by omega) (by omega) h1 (by omega))))
        · show sel (fun q => q) (dc h.m) (64 * i + 8 * j + k) x = sel (fun q => q) (dc h.m) (64 * i + 8 * (j + 1)) x
          refine sel_more (by omega) (fun h1 h2 => ?_)
          (try dsimp only at h1 h2)
          exact hS.dual.cm.z hx (.inr (.inr (rk_lo (A := x / 64) (B := x / 8 % 8) (i := i) (j := j) (by omega) (by omega) (by omega) (by omega) (by omega))))
    · obtain rfl : j = a := by omega
      (repeat first|refine zG ?_|(refine LS.nilO ?_;intro nq hnq hltq;try refine zU ?_)|(refine MS.new ?_;intro bq hbq hbqf;try refine zU ?_)|(refine MS.nil ?_;intro nq hnq hltq;have hlq:=hltq _ _ (Hp.get_eq _ _ _);clear hltq;try refine zU ?_)|(refine LS.nilQ ?_;try with_reducible intro nq hnq;try refine zU ?_))
      refine ⟨by omega, by (repeat first | exact trivial | refine And.intro rfl ?_), Drops.keepc rfl rfl (fun q hq => hopfC_same (A := dS h (64 * i + 8 * j) (64 * i + 8 * j) (8 * i + j)) (B := dS h (64 * (i + 1)) (64 * (i + 1)) (8 * (i + 1))) ⟨rfl, rfl, fun _ _ => rfl, fun x hx => ?_, fun _ _ => rfl, fun x hx => ?_, fun x hx => ?_⟩ hq) (Drops.refl _ _), trivial⟩
      · show sel dRm (dm h.c) (64 * i + 8 * j) x = sel dRm (dm h.c) (64 * (i + 1)) x
        refine sel_more (by omega) (fun h1 h2 => ?_)
        rw [dRm_eq] at h1 h2; exact hS.dual.mm.z hx (.inl (rk_mid (by omega) (by omega) h1 (by omega)))
      · show sel (fun q => q) (dc h.m) (64 * i + 8 * j) x = sel (fun q => q) (dc h.m) (64 * (i + 1)) x
        refine sel_more (by omega) (fun h1 h2 => ?_)
        (try dsimp only at h1 h2)
        exact hS.dual.cm.z hx (.inr (.inl (rk_mid (A := x / 64) (C := x % 8) (i := i) (by omega) (by omega) (by omega) (by omega))))
      · show sel (fun q => q) (trn h.s) (8 * i + j) x = sel (fun q => q) (trn h.s) (8 * (i + 1)) x
        refine sel_more (by omega) (fun h1 h2 => ?_)
        (try dsimp only at h1 h2)
        exact trn_zero hS.sm hx (.inr (by omega))
  · obtain rfl : i = a := by omega
    (repeat first|refine zG ?_|(refine LS.nilO ?_;intro nq hnq hltq;try refine zU ?_)|(refine MS.new ?_;intro bq hbq hbqf;try refine zU ?_)|(refine MS.nil ?_;intro nq hnq hltq;have hlq:=hltq _ _ (Hp.get_eq _ _ _);clear hltq;try refine zU ?_)|(refine LS.nilQ ?_;try with_reducible intro nq hnq;try refine zU ?_))
    refine ⟨.arr 1106 (hopfC (dualT h)), H, conc_arr (fun q hq => ?_), by exact zD, rfl, rfl⟩
    rw [Nat.zero_add]
    refine hopfC_same (A := dS h (64 * i) (64 * i) (8 * i)) (B := dualT h) ⟨rfl, rfl, fun _ _ => rfl, fun x hx => ?_, fun _ _ => rfl, fun x hx => ?_, fun x hx => ?_⟩ hq
    · show sel dRm (dm h.c) (64 * i) x = dm h.c x
      unfold sel; split
      · rfl
      · rename_i e; rw [dRm_eq] at e; exact (hS.dual.mm.z hx (.inr (.inr (by omega)))).symm
    · show sel (fun q => q) (dc h.m) (64 * i) x = dc h.m x
      unfold sel; split
      · rfl
      · rename_i e; (try dsimp only at e); exact (hS.dual.cm.z hx (.inl (by omega))).symm
    · show sel (fun q => q) (trn h.s) (8 * i) x = trn h.s x
      unfold sel; split
      · rfl
      · rename_i e; (try dsimp only at e); exact (trn_zero hS.sm hx (.inl (by omega))).symm
/-- impl.first -/
def ir39 : Cd := (.seq (.reg [⟨some 2,none,.mov (.c (.int .i64 0))⟩]) (.seq (.seq (.reg [⟨some 5,none,.mov (.t 0)⟩,⟨some 6,none,.len (.t 5)⟩,⟨some 7,none,.mov (.c (.int .i64 0))⟩]) (.block 0 (.loop (.seq (.reg [⟨some 8,none,.bin .lss (.t 7) (.t 6)⟩]) (.seq (.cond (.t 8) .skip (.exit 0)) (.seq (.block 1 (.seq (.reg [⟨some 9,none,.isl 1 (.t 5) (.t 7)⟩,⟨some 10,none,.ld none (.t 9)⟩,⟨some 4,none,.mov (.t 10)⟩]) (.seq (.reg [⟨some 11,none,.mov (.t 4)⟩,⟨some 12,none,.bin .neq (.t 11) (.c (.int .i64 0))⟩]) (.cond (.t 12) (.seq (.reg [⟨some 13,none,.mov (.t 4)⟩,⟨some 2,none,.mov (.t 13)⟩]) .ret) .skip)))) (.reg [⟨some 14,none,.bin .add (.t 7) (.c (.int .i64 1))⟩,⟨some 7,none,.mov (.t 14)⟩]))))))) (.seq (.reg [⟨some 2,none,.mov (.c (.int .i64 0))⟩]) .ret)))
set_option maxRecDepth 100000 in
theorem tr39 : trFn Tryz.prog Tryz.f39 = some (15, ir39, [.tmp 2]) := by kernel_rfl
theorem impl_first (v : SV) (len : Nat) (hl : len ≤ 1000) (w : Nat → Int) (H : Hp) (n : Nat) (hv : lsi H v len w) :
    FnS Tryz.prog 39 [.s v] H n (fun r H' _ => r = i64 (fstz w len) ∧ H' = H) := by
  obtain ⟨b, c, K, rfl, hb, hs, hc⟩ := hv
  refine FnS.of_body Tryz.func39 tr39 (by simp) (fun hf => ?_)
  dsimp only [argEnv]
  unfold ir39
  have hbn := getlt hf hb
  (repeat first|refine zG ?_|(refine LS.nilO ?_;intro nq hnq hltq;try refine zU ?_)|(refine MS.new ?_;intro bq hbq hbqf;try refine zU ?_)|(refine MS.nil ?_;intro nq hnq hltq;have hlq:=hltq _ _ (Hp.get_eq _ _ _);clear hltq;try refine zU ?_)|(refine LS.nilQ ?_;try with_reducible intro nq hnq;try refine zU ?_))
  refine CS.iter len (fun i => [(7, i64 i), (6, i64 len), (5, .s (.slc b 0 len c))]) (fun _ => H) (fun i => Zw w i) (by (repeat first | exact trivial | refine And.intro rfl ?_)) (by exact zD) ⟨fun j hj => by omega⟩ ?_
  intro i n1 hi hn1 hJ
  (repeat first|refine zG ?_|(refine LS.nilO ?_;intro nq hnq hltq;try refine zU ?_)|(refine MS.new ?_;intro bq hbq hbqf;try refine zU ?_)|(refine MS.nil ?_;intro nq hnq hltq;have hlq:=hltq _ _ (Hp.get_eq _ _ _);clear hltq;try refine zU ?_)|(refine LS.nilQ ?_;try with_reducible intro nq hnq;try refine zU ?_))
  refine zI ?_ ?_<;>intro h1
  · have hci := hc i (by omega)
    rw [show i = 0 + i * 1 by omega] at hci
    (repeat first|refine zG ?_|(refine LS.nilO ?_;intro nq hnq hltq;try refine zU ?_)|(refine MS.new ?_;intro bq hbq hbqf;try refine zU ?_)|(refine MS.nil ?_;intro nq hnq hltq;have hlq:=hltq _ _ (Hp.get_eq _ _ _);clear hltq;try refine zU ?_)|(refine LS.nilQ ?_;try with_reducible intro nq hnq;try refine zU ?_))
    refine zI ?_ ?_<;>intro h2
    · (repeat first|refine zG ?_|(refine LS.nilO ?_;intro nq hnq hltq;try refine zU ?_)|(refine MS.new ?_;intro bq hbq hbqf;try refine zU ?_)|(refine MS.nil ?_;intro nq hnq hltq;have hlq:=hltq _ _ (Hp.get_eq _ _ _);clear hltq;try refine zU ?_)|(refine LS.nilQ ?_;try with_reducible intro nq hnq;try refine zU ?_))
      exact ⟨_, H, by rw [fstz_hit len w i (by omega) hJ.h (by simpa using h2), show 0 + i * 1 = i by omega], by exact zD, rfl, rfl⟩
    · (repeat first|refine zG ?_|(refine LS.nilO ?_;intro nq hnq hltq;try refine zU ?_)|(refine MS.new ?_;intro bq hbq hbqf;try refine zU ?_)|(refine MS.nil ?_;intro nq hnq hltq;have hlq:=hltq _ _ (Hp.get_eq _ _ _);clear hltq;try refine zU ?_)|(refine LS.nilQ ?_;try with_reducible intro nq hnq;try refine zU ?_))
      refine ⟨by omega, by (repeat first | exact trivial | refine And.intro rfl ?_), by exact zD, ⟨fun j hj => ?_⟩⟩
      by_cases e : j = i
      · subst e; simpa using h2
      · exact hJ.h j (by omega)
  · obtain rfl : i = len := by omega
    (repeat first|refine zG ?_|(refine LS.nilO ?_;intro nq hnq hltq;try refine zU ?_)|(refine MS.new ?_;intro bq hbq hbqf;try refine zU ?_)|(refine MS.nil ?_;intro nq hnq hltq;have hlq:=hltq _ _ (Hp.get_eq _ _ _);clear hltq;try refine zU ?_)|(refine LS.nilQ ?_;try with_reducible intro nq hnq;try refine zU ?_))
    exact ⟨_, H, by rw [fstz_none i w hJ.h], by exact zD, rfl, rfl⟩
theorem impl_unlessB (b : Bool) (k : Int) (H : Hp) (n : Nat) :
    FnS Tryz.prog 40 [bl b, i64 k] H n (fun r H' _ => r = i64 (if b = true then 0 else k) ∧ H' = H) := by
  refine FnS.of_body Tryz.func40 tr40 (by simp) (fun hf => ?_)
  dsimp only [argEnv]
  unfold ir40
  cases b
  · (repeat first|refine zG ?_|(refine LS.nilO ?_;intro nq hnq hltq;try refine zU ?_)|(refine MS.new ?_;intro bq hbq hbqf;try refine zU ?_)|(refine MS.nil ?_;intro nq hnq hltq;have hlq:=hltq _ _ (Hp.get_eq _ _ _);clear hltq;try refine zU ?_)|(refine LS.nilQ ?_;try with_reducible intro nq hnq;try refine zU ?_))
    exact ⟨_, H, rfl, by exact zD, rfl, rfl⟩
  · (repeat first|refine zG ?_|(refine LS.nilO ?_;intro nq hnq hltq;try refine zU ?_)|(refine MS.new ?_;intro bq hbq hbqf;try refine zU ?_)|(refine MS.nil ?_;intro nq hnq hltq;have hlq:=hltq _ _ (Hp.get_eq _ _ _);clear hltq;try refine zU ?_)|(refine LS.nilQ ?_;try with_reducible intro nq hnq;try refine zU ?_))
    exact ⟨_, H, rfl, by exact zD, rfl, rfl⟩
end Go.Proofs.YtbknndbfbebkdabGreatR
