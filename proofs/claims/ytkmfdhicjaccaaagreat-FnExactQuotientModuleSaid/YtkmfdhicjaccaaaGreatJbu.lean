/- Codes of modules and vectors, and lists that a module keeps, on the reference's side. -/
import Derived.Test.YtkmfdhicjaccaaaGreatJbt
set_option linter.unusedSectionVars false
set_option linter.unusedVariables false
set_option linter.unusedSimpArgs false

namespace Go.V

set_option linter.unusedSimpArgs false

set_option linter.unusedVariables false

theorem apk_mat {p : Int} {l v : Nat → Int} {d x : Nat} (hd : d ≤ 8) (hl : ∀ y, d ≤ y → y < 8 → l (8 * y + x) = 0) : apk p l v d x = app p l v x := by
  unfold app apk
  rw [sm_more hd (fun y h1 h2 => by rw [hl y h1 h2, Int.mul_zero])]

theorem rdk_cong {p : Int} {A : Nat → Nat → Int} {v w : Nat → Int} {m : Nat} (hlt : ∀ i, i < m → fsn (A i) 8 < 8) (h : ∀ x, x < 8 → v x = w x) : ∀ k, k ≤ m → ∀ x, x < 8 → rdk p A v k x = rdk p A w k x
  | 0, _, x, hx => h x hx
  | k + 1, hk, x, hx => by
    have ih := rdk_cong (p := p) hlt h k (by omega)
    rw [rdk_succ, rdk_succ]
    unfold pl
    rw [ih x hx, ih _ (hlt k (by omega))]

end Go.V

namespace Go.Proofs.YtkmfdhicjaccaaaGreat

open Go.V

variable [BW]

set_option linter.unusedSimpArgs false

set_option linter.unusedVariables false

set_option maxHeartbeats 4000000

/-- spec.l06Code -/
def ir55 : Cd := (.seq (.reg [⟨some 2,none,.box 41 (.t 0)⟩,⟨some 4,none,.mov (.c (.int .i64 0))⟩]) (.seq (.seq (.reg [⟨some 6,none,.ld (some 1106) (.t 2)⟩,⟨some 7,none,.call 74 [(.t 6)]⟩,⟨some 8,none,.un .not (.t 7)⟩]) (.cond (.t 8) (.seq (.reg [⟨some 4,none,.mov (.c (.int .i64 1))⟩]) .ret) .skip)) (.seq (.seq (.reg [⟨some 5,none,.mov (.c (.int .i64 0))⟩]) (.block 0 (.loop (.seq (.seq (.reg [⟨some 9,none,.mov (.t 5)⟩,⟨some 10,none,.mov (.t 1)⟩,⟨some 11,none,.len (.t 10)⟩,⟨some 12,none,.bin .lss (.t 9) (.t 11)⟩]) (.cond (.t 12) .skip (.exit 0))) (.seq (.block 1 (.seq (.drw true [5] [⟨some 15,none,.ld (some 1106) (.t 2)⟩,⟨some 16,none,.mov (.t 1)⟩,⟨some 17,none,.mov (.t 5)⟩,⟨some 18,none,.isl 513 (.t 16) (.t 17)⟩,⟨some 19,none,.ld (some 513) (.t 18)⟩,⟨some 20,none,.call 86 [(.t 15),(.t 19)]⟩,⟨some 21,none,.un .not (.t 20)⟩]) (.cond (.t 21) (.seq (.reg [⟨some 4,none,.mov (.c (.int .i64 1))⟩]) .ret) .skip))) (.reg [⟨some 13,none,.mov (.t 5)⟩,⟨some 14,none,.bin .add (.t 13) (.c (.int .i64 1))⟩,⟨some 5,none,.mov (.t 14)⟩])))))) (.seq (.reg [⟨some 4,none,.mov (.c (.int .i64 0))⟩]) .ret))))

set_option maxRecDepth 100000 in
theorem tr55 : trFn Tryz.prog Tryz.f55 = some (22, ir55, [.tmp 4]) := by kernel_rfl

theorem spec_l06Code (h : HT) (d : Int) (t : Nat → Int) (b : Nat) (Kl : Blk) (Kh Km : Nat → SV) (H : Hp) (n : Nat) (hK : h.At Kh) (hB : h.By) (kd : Km 0 = .int .i64 d) (cm : ∀ q, q < 512 → Km (1 + q) = .int .u8 (t q)) (ht : isBy 512 t)
    (gl : H.get b = some Kl) (sl : Kl.size = 513) (cl : ∀ q, q < 513 → Kl.c q = Km q) :
    FnS Tryz.prog 55 [.arr 1106 Kh, .s (.slc b 0 1 1)] H n (fun r H' _ => r = i64 (cd (isHopf h ∧ isModule h h.N d t)) ∧ H' = H) := by
  refine FnS.of_body Tryz.func55 tr55 (by simp) (fun hf => ?_)
  dsimp only [argEnv]
  unfold ir55
  have hbn := getlt hf gl
  (repeat first|refine zG ?_|(refine LS.nilO ?_;intro nq hnq hltq;try refine zU ?_)|(refine MS.new ?_;intro bq hbq hbqf;try refine zU ?_)|(refine MS.nil ?_;intro nq hnq hltq;have hlq:=hltq _ _ (Hp.get_eq _ _ _);clear hltq;try refine zU ?_)|(refine LS.nilQ ?_;try with_reducible intro nq hnq;try refine zU ?_))
  refine RS.call rfl ((FnS.args (concs_cons (conc_arr (fun q hq => rfl)) rfl) (spec_l03Is h Kh _ _ hK hB)).mono ?_)
  rintro r H' n2 hn2 ⟨rfl, rfl⟩
  (repeat first|refine zG ?_|(refine LS.nilO ?_;intro nq hnq hltq;try refine zU ?_)|(refine MS.new ?_;intro bq hbq hbqf;try refine zU ?_)|(refine MS.nil ?_;intro nq hnq hltq;have hlq:=hltq _ _ (Hp.get_eq _ _ _);clear hltq;try refine zU ?_)|(refine LS.nilQ ?_;try with_reducible intro nq hnq;try refine zU ?_))
  refine zI ?_ ?_<;>intro h1
  · (repeat first|refine zG ?_|(refine LS.nilO ?_;intro nq hnq hltq;try refine zU ?_)|(refine MS.new ?_;intro bq hbq hbqf;try refine zU ?_)|(refine MS.nil ?_;intro nq hnq hltq;have hlq:=hltq _ _ (Hp.get_eq _ _ _);clear hltq;try refine zU ?_)|(refine LS.nilQ ?_;try with_reducible intro nq hnq;try refine zU ?_))
    exact ⟨_, H, rfl, by exact zD, by rw [cd_false (fun q => h1 q.1)], rfl⟩
  obtain ⟨N, hS⟩ := h1.1.hs
  (repeat first|refine zG ?_|(refine LS.nilO ?_;intro nq hnq hltq;try refine zU ?_)|(refine MS.new ?_;intro bq hbq hbqf;try refine zU ?_)|(refine MS.nil ?_;intro nq hnq hltq;have hlq:=hltq _ _ (Hp.get_eq _ _ _);clear hltq;try refine zU ?_)|(refine LS.nilQ ?_;try with_reducible intro nq hnq;try refine zU ?_))
  refine CS.iter 1 (fun i => [(5, i64 (i : Nat)), (1, .s (.slc b 0 1 1)), (2, ptr n 0)]) (fun _ => (n, ⟨1106, Kh, 41⟩) :: H) (fun i => i = 1 → isModule h h.N d t) (by (repeat first | exact trivial | refine And.intro rfl ?_)) (Drops.refl _ _) (fun q => by omega) ?_
  intro i n3 hi hn3 hJ
  (repeat first|refine zG ?_|(refine LS.nilO ?_;intro nq hnq hltq;try refine zU ?_)|(refine MS.new ?_;intro bq hbq hbqf;try refine zU ?_)|(refine MS.nil ?_;intro nq hnq hltq;have hlq:=hltq _ _ (Hp.get_eq _ _ _);clear hltq;try refine zU ?_)|(refine LS.nilQ ?_;try with_reducible intro nq hnq;try refine zU ?_))
  refine zI ?_ ?_<;>intro h2
  · obtain rfl : i = 0 := by omega
    (repeat first|refine zG ?_|(refine LS.nilO ?_;intro nq hnq hltq;try refine zU ?_)|(refine MS.new ?_;intro bq hbq hbqf;try refine zU ?_)|(refine MS.nil ?_;intro nq hnq hltq;have hlq:=hltq _ _ (Hp.get_eq _ _ _);clear hltq;try refine zU ?_)|(refine LS.nilQ ?_;try with_reducible intro nq hnq;try refine zU ?_))
    refine RS.call rfl ((FnS.args (concs_cons (conc_arr (fun q hq => rfl)) (concs_cons (conc_arr (fun q hq => ?_)) rfl)) (spec_l06Holds h N d t Kh Km _ _ hS hK hB kd cm ht)).mono ?_)
    · exact cl q hq
    rintro r H' n5 hn5 ⟨rfl, rfl⟩
    rw [← hS.N]
    (repeat first|refine zG ?_|(refine LS.nilO ?_;intro nq hnq hltq;try refine zU ?_)|(refine MS.new ?_;intro bq hbq hbqf;try refine zU ?_)|(refine MS.nil ?_;intro nq hnq hltq;have hlq:=hltq _ _ (Hp.get_eq _ _ _);clear hltq;try refine zU ?_)|(refine LS.nilQ ?_;try with_reducible intro nq hnq;try refine zU ?_))
    refine zI ?_ ?_<;>intro h3
    · (repeat first|refine zG ?_|(refine LS.nilO ?_;intro nq hnq hltq;try refine zU ?_)|(refine MS.new ?_;intro bq hbq hbqf;try refine zU ?_)|(refine MS.nil ?_;intro nq hnq hltq;have hlq:=hltq _ _ (Hp.get_eq _ _ _);clear hltq;try refine zU ?_)|(refine LS.nilQ ?_;try with_reducible intro nq hnq;try refine zU ?_))
      exact ⟨_, H, rfl, by exact zD, by rw [cd_false (fun q => h3 q.2)], rfl⟩
    · (repeat first|refine zG ?_|(refine LS.nilO ?_;intro nq hnq hltq;try refine zU ?_)|(refine MS.new ?_;intro bq hbq hbqf;try refine zU ?_)|(refine MS.nil ?_;intro nq hnq hltq;have hlq:=hltq _ _ (Hp.get_eq _ _ _);clear hltq;try refine zU ?_)|(refine LS.nilQ ?_;try with_reducible intro nq hnq;try refine zU ?_))
      exact ⟨by omega, by (repeat first | exact trivial | refine And.intro rfl ?_), Drops.refl _ _, fun _ => h3⟩
  · obtain rfl : i = 1 := by omega
    (repeat first|refine zG ?_|(refine LS.nilO ?_;intro nq hnq hltq;try refine zU ?_)|(refine MS.new ?_;intro bq hbq hbqf;try refine zU ?_)|(refine MS.nil ?_;intro nq hnq hltq;have hlq:=hltq _ _ (Hp.get_eq _ _ _);clear hltq;try refine zU ?_)|(refine LS.nilQ ?_;try with_reducible intro nq hnq;try refine zU ?_))
    exact ⟨_, H, rfl, by exact zD, by rw [cd_true ⟨h1, hJ rfl⟩], rfl⟩

/-- spec.l06Vectors -/
def ir18 : Cd := (.seq (.reg [⟨some 3,none,.box 41 (.t 0)⟩,⟨some 4,none,.box 36 (.t 1)⟩,⟨some 6,none,.mov (.c (.int .i64 0))⟩]) (.seq (.seq (.reg [⟨some 9,none,.ld (some 1106) (.t 3)⟩,⟨some 10,none,.ld (some 513) (.t 4)⟩,⟨some 11,none,.bsl 36 1 513 [(1,(.int .i64 0)),(512,(.int .u8 0))] [(0,513,(.t 10))]⟩,⟨some 12,none,.call 55 [(.t 9),(.t 11)]⟩,⟨some 7,none,.mov (.t 12)⟩]) (.seq (.reg [⟨some 13,none,.mov (.t 7)⟩,⟨some 14,none,.bin .neq (.t 13) (.c (.int .i64 0))⟩]) (.cond (.t 14) (.seq (.reg [⟨some 15,none,.mov (.t 7)⟩,⟨some 6,none,.mov (.t 15)⟩]) .ret) .skip))) (.seq (.seq (.reg [⟨some 8,none,.mov (.c (.int .i64 0))⟩]) (.block 0 (.loop (.seq (.seq (.reg [⟨some 16,none,.mov (.t 8)⟩,⟨some 17,none,.mov (.t 2)⟩,⟨some 18,none,.len (.t 17)⟩,⟨some 19,none,.bin .lss (.t 16) (.t 18)⟩]) (.cond (.t 19) .skip (.exit 0))) (.seq (.block 1 (.seq (.drw true [8] [⟨some 22,none,.fa 0 (.t 3)⟩,⟨some 23,none,.ld none (.t 22)⟩,⟨some 24,none,.fa 0 (.t 4)⟩,⟨some 25,none,.ld none (.t 24)⟩,⟨some 26,none,.mov (.t 2)⟩,⟨some 27,none,.mov (.t 8)⟩,⟨some 28,none,.isl 8 (.t 26) (.t 27)⟩,⟨some 29,none,.ld (some 8) (.t 28)⟩,⟨some 30,none,.call 56 [(.t 23),(.t 25),(.t 29)]⟩,⟨some 31,none,.un .not (.t 30)⟩]) (.cond (.t 31) (.seq (.reg [⟨some 6,none,.mov (.c (.int .i64 1))⟩]) .ret) .skip))) (.reg [⟨some 20,none,.mov (.t 8)⟩,⟨some 21,none,.bin .add (.t 20) (.c (.int .i64 1))⟩,⟨some 8,none,.mov (.t 21)⟩])))))) (.seq (.reg [⟨some 6,none,.mov (.c (.int .i64 0))⟩]) .ret))))

set_option maxRecDepth 100000 in
theorem tr18 : trFn Tryz.prog Tryz.f18 = some (32, ir18, [.tmp 6]) := by kernel_rfl

theorem spec_l06Vectors (h : HT) (d : Int) (t : Nat → Int) (L : Nat → Nat → Int) (k lb : Nat) (lv : SV) (Kh Km : Nat → SV) (H : Hp) (n : Nat) (hK : h.At Kh) (hB : h.By) (kd : Km 0 = .int .i64 d) (cm : ∀ q, q < 512 → Km (1 + q) = .int .u8 (t q)) (ht : isBy 512 t)
    (hk : k ≤ 1000000) (hL : VL H lv k L lb) (hLb : ∀ i, i < k → isBy 8 (L i)) :
    FnS Tryz.prog 18 [.arr 1106 Kh, .arr 513 Km, .s lv] H n (fun r H' _ => r = i64 (cd (qok h d t L k)) ∧ H' = H) := by
  have hk0 := hK.p
  obtain ⟨o, cap, K, rfl, gb, ho, hmc, hc⟩ := hL
  refine FnS.of_body Tryz.func18 tr18 (by simp) (fun hf => ?_)
  dsimp only [argEnv]
  unfold ir18
  have hlb := getlt hf gb
  (repeat first|refine zG ?_|(refine LS.nilO ?_;intro nq hnq hltq;try refine zU ?_)|(refine MS.new ?_;intro bq hbq hbqf;try refine zU ?_)|(refine MS.nil ?_;intro nq hnq hltq;have hlq:=hltq _ _ (Hp.get_eq _ _ _);clear hltq;try refine zU ?_)|(refine LS.nilQ ?_;try with_reducible intro nq hnq;try refine zU ?_))
  refine RS.call rfl ((FnS.args (concs_cons (conc_arr (fun q hq => rfl)) rfl) (spec_l06Code h d t (n + 2) _ Kh Km _ _ hK hB kd cm ht (by exact zH) rfl (fun q hq => ?_))).mono ?_)
  · (try dsimp only)
    unfold splice
    rw [if_pos (by omega), Nat.sub_zero]
  rintro r H' n2 hn2 ⟨rfl, rfl⟩
  by_cases hq : isHopf h ∧ isModule h h.N d t
  · rw [cd_true hq]
    (repeat first|refine zG ?_|(refine LS.nilO ?_;intro nq hnq hltq;try refine zU ?_)|(refine MS.new ?_;intro bq hbq hbqf;try refine zU ?_)|(refine MS.nil ?_;intro nq hnq hltq;have hlq:=hltq _ _ (Hp.get_eq _ _ _);clear hltq;try refine zU ?_)|(refine LS.nilQ ?_;try with_reducible intro nq hnq;try refine zU ?_))
    refine CS.iter k (fun i => [(8, i64 (i : Nat)), (2, .s (.slc lb o k cap)), (3, ptr n 0), (4, ptr (n + 1) 0)]) (fun _ => (n + 1, ⟨513, Km, 36⟩) :: (n, ⟨1106, Kh, 41⟩) :: H) (fun i => ∀ j, j < i → isVec h.p d (L j)) (by (repeat first | exact trivial | refine And.intro rfl ?_)) (by first | exact Drops.refl _ _ | exact zD) (fun j hj => by omega) ?_
    intro i n3 hi hn3 hJ
    (repeat first|refine zG ?_|(refine LS.nilO ?_;intro nq hnq hltq;try refine zU ?_)|(refine MS.new ?_;intro bq hbq hbqf;try refine zU ?_)|(refine MS.nil ?_;intro nq hnq hltq;have hlq:=hltq _ _ (Hp.get_eq _ _ _);clear hltq;try refine zU ?_)|(refine LS.nilQ ?_;try with_reducible intro nq hnq;try refine zU ?_))
    refine zI ?_ ?_<;>intro h2
    · have hi' : i < k := by omega
      have e9 : ∀ q, q < 8 → K.c (o + i * 8 + q) = .int .u8 (L i q) := fun q hq => by rw [Nat.add_assoc]; exact hc i q hi' hq
      have hLi := hLb i hi'
      (repeat first|refine zG ?_|(refine LS.nilO ?_;intro nq hnq hltq;try refine zU ?_)|(refine MS.new ?_;intro bq hbq hbqf;try refine zU ?_)|(refine MS.nil ?_;intro nq hnq hltq;have hlq:=hltq _ _ (Hp.get_eq _ _ _);clear hltq;try refine zU ?_)|(refine LS.nilQ ?_;try with_reducible intro nq hnq;try refine zU ?_))
      refine RS.call rfl ((spec_l01Vector h.p d (L i) _ _ hLi).mono ?_)
      rintro r H' n5 hn5 ⟨rfl, rfl⟩
      (repeat first|refine zG ?_|(refine LS.nilO ?_;intro nq hnq hltq;try refine zU ?_)|(refine MS.new ?_;intro bq hbq hbqf;try refine zU ?_)|(refine MS.nil ?_;intro nq hnq hltq;have hlq:=hltq _ _ (Hp.get_eq _ _ _);clear hltq;try refine zU ?_)|(refine LS.nilQ ?_;try with_reducible intro nq hnq;try refine zU ?_))
      refine zI ?_ ?_<;>intro h3
      · (repeat first|refine zG ?_|(refine LS.nilO ?_;intro nq hnq hltq;try refine zU ?_)|(refine MS.new ?_;intro bq hbq hbqf;try refine zU ?_)|(refine MS.nil ?_;intro nq hnq hltq;have hlq:=hltq _ _ (Hp.get_eq _ _ _);clear hltq;try refine zU ?_)|(refine LS.nilQ ?_;try with_reducible intro nq hnq;try refine zU ?_))
        exact ⟨_, H, rfl, by exact zD, by rw [cd_false (fun q => h3 (q.2 i hi'))], rfl⟩
      · (repeat first|refine zG ?_|(refine LS.nilO ?_;intro nq hnq hltq;try refine zU ?_)|(refine MS.new ?_;intro bq hbq hbqf;try refine zU ?_)|(refine MS.nil ?_;intro nq hnq hltq;have hlq:=hltq _ _ (Hp.get_eq _ _ _);clear hltq;try refine zU ?_)|(refine LS.nilQ ?_;try with_reducible intro nq hnq;try refine zU ?_))
        refine ⟨by omega, by (repeat first | exact trivial | refine And.intro rfl ?_), Drops.refl _ _, fun j hj => ?_⟩
        by_cases e : j = i
        · rw [e]; exact h3
        · exact hJ j (by omega)
    · obtain rfl : k = i := by omega
      (repeat first|refine zG ?_|(refine LS.nilO ?_;intro nq hnq hltq;try refine zU ?_)|(refine MS.new ?_;intro bq hbq hbqf;try refine zU ?_)|(refine MS.nil ?_;intro nq hnq hltq;have hlq:=hltq _ _ (Hp.get_eq _ _ _);clear hltq;try refine zU ?_)|(refine LS.nilQ ?_;try with_reducible intro nq hnq;try refine zU ?_))
      exact ⟨_, H, rfl, by exact zD, by rw [cd_true (show qok h d t L k from ⟨hq, hJ⟩)], rfl⟩
  · rw [cd_false hq]
    (repeat first|refine zG ?_|(refine LS.nilO ?_;intro nq hnq hltq;try refine zU ?_)|(refine MS.new ?_;intro bq hbq hbqf;try refine zU ?_)|(refine MS.nil ?_;intro nq hnq hltq;have hlq:=hltq _ _ (Hp.get_eq _ _ _);clear hltq;try refine zU ?_)|(refine LS.nilQ ?_;try with_reducible intro nq hnq;try refine zU ?_))
    exact ⟨_, H, rfl, by exact zD, by rw [cd_false (fun q => hq q.1)], rfl⟩

/-- spec.l06Closed -/
def ir21 : Cd := (.seq (.reg [⟨some 3,none,.box 41 (.t 0)⟩,⟨some 4,none,.box 36 (.t 1)⟩,⟨some 6,none,.mov (.c (.bool false))⟩]) (.seq (.seq (.reg [⟨some 7,none,.mov (.c (.int .i64 0))⟩]) (.block 0 (.loop (.seq (.seq (.reg [⟨some 9,none,.mov (.t 7)⟩,⟨some 10,none,.fa 1 (.t 3)⟩,⟨some 11,none,.ld none (.t 10)⟩,⟨some 12,none,.bin .lss (.t 9) (.t 11)⟩]) (.cond (.t 12) .skip (.exit 0))) (.seq (.block 1 (.seq (.reg [⟨some 8,none,.mov (.c (.int .i64 0))⟩]) (.block 2 (.loop (.seq (.seq (.reg [⟨some 15,none,.mov (.t 8)⟩,⟨some 16,none,.mov (.t 2)⟩,⟨some 17,none,.len (.t 16)⟩,⟨some 18,none,.bin .lss (.t 15) (.t 17)⟩]) (.cond (.t 18) .skip (.exit 2))) (.seq (.block 3 (.seq (.drwo true [16,17] [0,1,2,3,4,5,6,7,8,9,10,11,12,13,15,14,16,17,18] [⟨some 21,none,.fa 0 (.t 3)⟩,⟨some 22,none,.ld none (.t 21)⟩,⟨some 23,none,.fa 0 (.t 3)⟩,⟨some 24,none,.ld none (.t 23)⟩,⟨some 25,none,.fa 0 (.t 4)⟩,⟨some 26,none,.ld none (.t 25)⟩,⟨some 27,none,.mov (.t 7)⟩,⟨some 28,none,.fa 1 (.t 4)⟩,⟨some 29,none,.ia 8 64 (.t 28) (.t 27)⟩,⟨some 30,none,.ld (some 64) (.t 29)⟩,⟨some 31,none,.mov (.t 2)⟩,⟨some 32,none,.mov (.t 8)⟩,⟨some 33,none,.isl 8 (.t 31) (.t 32)⟩,⟨some 34,none,.ld (some 8) (.t 33)⟩,⟨some 35,none,.call 58 [(.t 24),(.t 26),(.t 30),(.t 34)]⟩,⟨some 36,none,.mov (.t 2)⟩,⟨some 37,none,.call 22 [(.t 22),(.t 35),(.t 36)]⟩,⟨some 38,none,.call 57 [(.t 37)]⟩,⟨some 39,none,.un .not (.t 38)⟩]) (.cond (.t 39) (.seq (.reg [⟨some 6,none,.mov (.c (.bool false))⟩]) .ret) .skip))) (.reg [⟨some 19,none,.mov (.t 8)⟩,⟨some 20,none,.bin .add (.t 19) (.c (.int .i64 1))⟩,⟨some 8,none,.mov (.t 20)⟩]))))))) (.reg [⟨some 13,none,.mov (.t 7)⟩,⟨some 14,none,.bin .add (.t 13) (.c (.int .i64 1))⟩,⟨some 7,none,.mov (.t 14)⟩])))))) (.seq (.reg [⟨some 6,none,.mov (.c (.bool true))⟩]) .ret)))

set_option maxRecDepth 100000 in
theorem tr21 : trFn Tryz.prog Tryz.f21 = some (40, ir21, [.tmp 6]) := by kernel_rfl

theorem spec_l06Closed (h : HT) (N s : Nat) (t : Nat → Int) (A : Nat → Nat → Int) (m bs : Nat) (sv : SV) (Kh Km : Nat → SV) (H : Hp) (n : Nat) (hS : HS h N) (hK : h.At Kh) (kd : Km 0 = .int .i64 (s : Nat)) (cm : ∀ q, q < 512 → Km (1 + q) = .int .u8 (t q)) (ht : isBy 512 t) (hsh : mshp h.p (s : Nat) N t)
    (hm : m ≤ 8) (hV : VL H sv m A bs) (hA : ∀ i, i < m → isRes h.p 8 (A i)) (hlt : ∀ i, i < m → fsn (A i) 8 < 8) :
    FnS Tryz.prog 21 [.arr 1106 Kh, .arr 513 Km, .s sv] H n (fun r H' _ => r = bl (tb (∀ q, q < N * m → isIn h.p A m (ldl h.p t A m q))) ∧ H' = H) := by
  have hp := hS.hp
  have hN := hS.ha
  have hk0 := hK.p
  have hk1 := hK.n
  rw [hS.hn] at hk1
  have hk1' : Kh (0 + 1) = .int .i64 (N : Nat) := hk1
  have cm' : ∀ q, q < 512 → Km (0 + 1 + q) = .int .u8 (t q) := cm
  have hs8 := hsh.1.2
  obtain ⟨o, cap, K, rfl, gb, ho, hmc, hc⟩ := id hV
  refine FnS.of_body Tryz.func21 tr21 (by simp) (fun hf => ?_)
  dsimp only [argEnv]
  unfold ir21
  have hbb := getlt hf gb
  have key : ∀ i k, i < N → k < m → (isIn h.p A m (ldl h.p t A m (i * m + k)) ↔ ∀ x, x < 8 → rdk h.p A (apk h.p (fun y => t (64 * i + y)) (A k) s) m x = 0) := fun i k hi hk => by
    unfold isIn ldl
    rw [show (i * m + k) / m = i by rw [Nat.mul_comm, Nat.mul_add_div (by omega), Nat.div_eq_of_lt hk, Nat.add_zero], show (i * m + k) % m = k by rw [Nat.mul_comm, Nat.mul_add_mod, Nat.mod_eq_of_lt hk]]
    have ea : ∀ x, x < 8 → apk h.p (fun y => t (64 * i + y)) (A k) s x = app h.p (fun y => t (64 * i + y)) (A k) x := fun x hx => apk_mat (by omega) (fun y h1 h2 => by
      (try dsimp only)
      rw [← Nat.add_assoc]; exact hsh.zero (by omega) h2 hx (.inr (.inl (by omega))))
    have e := fun x (hx : x < 8) => rdk_cong (p := h.p) (A := A) hlt ea m (Nat.le_refl _) x hx
    exact ⟨fun q x hx => by rw [e x hx]; exact q x hx, fun q x hx => by rw [← e x hx]; exact q x hx⟩
  (repeat first|refine zG ?_|(refine LS.nilO ?_;intro nq hnq hltq;try refine zU ?_)|(refine MS.new ?_;intro bq hbq hbqf;try refine zU ?_)|(refine MS.nil ?_;intro nq hnq hltq;have hlq:=hltq _ _ (Hp.get_eq _ _ _);clear hltq;try refine zU ?_)|(refine LS.nilQ ?_;try with_reducible intro nq hnq;try refine zU ?_))
  refine CS.iter N (fun i => [(7, i64 (i : Nat)), (2, .s (.slc bs o m cap)), (3, ptr n 0), (4, ptr (n + 1) 0)]) (fun _ => (n + 1, ⟨513, Km, 36⟩) :: (n, ⟨1106, Kh, 41⟩) :: H) (fun i => ∀ i' k, i' < i → k < m → isIn h.p A m (ldl h.p t A m (i' * m + k))) (by (repeat first | exact trivial | refine And.intro rfl ?_)) (Drops.refl _ _) (fun i k hi => by omega) ?_
  intro i n1 hi hn1 hJ
  (repeat first|refine zG ?_|(refine LS.nilO ?_;intro nq hnq hltq;try refine zU ?_)|(refine MS.new ?_;intro bq hbq hbqf;try refine zU ?_)|(refine MS.nil ?_;intro nq hnq hltq;have hlq:=hltq _ _ (Hp.get_eq _ _ _);clear hltq;try refine zU ?_)|(refine LS.nilQ ?_;try with_reducible intro nq hnq;try refine zU ?_))
  refine zI ?_ ?_<;>intro h1
  · have hi' : i < N := by omega
    (repeat first|refine zG ?_|(refine LS.nilO ?_;intro nq hnq hltq;try refine zU ?_)|(refine MS.new ?_;intro bq hbq hbqf;try refine zU ?_)|(refine MS.nil ?_;intro nq hnq hltq;have hlq:=hltq _ _ (Hp.get_eq _ _ _);clear hltq;try refine zU ?_)|(refine LS.nilQ ?_;try with_reducible intro nq hnq;try refine zU ?_))
    refine CS.iter m (fun k => [(8, i64 (k : Nat)), (7, i64 (i : Nat)), (2, .s (.slc bs o m cap)), (3, ptr n 0), (4, ptr (n + 1) 0)]) (fun _ => (n + 1, ⟨513, Km, 36⟩) :: (n, ⟨1106, Kh, 41⟩) :: H) (fun k => ∀ k', k' < k → isIn h.p A m (ldl h.p t A m (i * m + k'))) (by (repeat first | exact trivial | refine And.intro rfl ?_)) (Drops.refl _ _) (fun k hk => by omega) ?_
    intro k n2 hk hn2 hJk
    (repeat first|refine zG ?_|(refine LS.nilO ?_;intro nq hnq hltq;try refine zU ?_)|(refine MS.new ?_;intro bq hbq hbqf;try refine zU ?_)|(refine MS.nil ?_;intro nq hnq hltq;have hlq:=hltq _ _ (Hp.get_eq _ _ _);clear hltq;try refine zU ?_)|(refine LS.nilQ ?_;try with_reducible intro nq hnq;try refine zU ?_))
    refine zI ?_ ?_<;>intro h2
    · have hk' : k < m := by omega
      have e9 : ∀ q, q < 8 → K.c (o + k * 8 + q) = .int .u8 (A k q) := fun q hq => by rw [Nat.add_assoc]; exact hc k q hk' hq
      have hAb : isBy 8 (A k) := isRes.by (hA k hk') hp.2
      (repeat first|refine zG ?_|(refine LS.nilO ?_;intro nq hnq hltq;try refine zU ?_)|(refine MS.new ?_;intro bq hbq hbqf;try refine zU ?_)|(refine MS.nil ?_;intro nq hnq hltq;have hlq:=hltq _ _ (Hp.get_eq _ _ _);clear hltq;try refine zU ?_)|(refine LS.nilQ ?_;try with_reducible intro nq hnq;try refine zU ?_))
      refine CS.tailLo _ (List.Mem.head _) ?_; dsimp only [List.take, List.drop]
      (repeat first|refine zG ?_|(refine LS.nilO ?_;intro nq hnq hltq;try refine zU ?_)|(refine MS.new ?_;intro bq hbq hbqf;try refine zU ?_)|(refine MS.nil ?_;intro nq hnq hltq;have hlq:=hltq _ _ (Hp.get_eq _ _ _);clear hltq;try refine zU ?_)|(refine LS.nilQ ?_;try with_reducible intro nq hnq;try refine zU ?_))
      refine LS.callQ (.arr 8 (bys (apk h.p (fun y => t (64 * i + y)) (A k) s))) rfl (fun n' hn' => spec_l01Apply h.p s (fun y => t (64 * i + y)) (A k) _ _ hp (by omega) (fun x hx => ht _ (by omega)) hAb) ?_
      (repeat first|refine zG ?_|(refine LS.nilO ?_;intro nq hnq hltq;try refine zU ?_)|(refine MS.new ?_;intro bq hbq hbqf;try refine zU ?_)|(refine MS.nil ?_;intro nq hnq hltq;have hlq:=hltq _ _ (Hp.get_eq _ _ _);clear hltq;try refine zU ?_)|(refine LS.nilQ ?_;try with_reducible intro nq hnq;try refine zU ?_))
      refine RS.call rfl ((spec_l01By h.p A m bs (.slc bs o m cap) (apk h.p (fun y => t (64 * i + y)) (A k) s) _ _ hp (by omega) (hV.keep (by simp (disch := omega) only [Hp.get_ne])) hA hlt (apk_res hp.1 _ _ _ 8)).mono ?_)
      rintro r H' n3 hn3 ⟨rfl, rfl⟩
      (repeat first|refine zG ?_|(refine LS.nilO ?_;intro nq hnq hltq;try refine zU ?_)|(refine MS.new ?_;intro bq hbq hbqf;try refine zU ?_)|(refine MS.nil ?_;intro nq hnq hltq;have hlq:=hltq _ _ (Hp.get_eq _ _ _);clear hltq;try refine zU ?_)|(refine LS.nilQ ?_;try with_reducible intro nq hnq;try refine zU ?_))
      refine RS.call rfl ((spec_l01Zero (rdk h.p A (apk h.p (fun y => t (64 * i + y)) (A k) s) m) _ _).mono ?_)
      rintro r H' n4 hn4 ⟨rfl, rfl⟩
      (repeat first|refine zG ?_|(refine LS.nilO ?_;intro nq hnq hltq;try refine zU ?_)|(refine MS.new ?_;intro bq hbq hbqf;try refine zU ?_)|(refine MS.nil ?_;intro nq hnq hltq;have hlq:=hltq _ _ (Hp.get_eq _ _ _);clear hltq;try refine zU ?_)|(refine LS.nilQ ?_;try with_reducible intro nq hnq;try refine zU ?_))
      refine zI ?_ ?_<;>intro h3
      · (repeat first|refine zG ?_|(refine LS.nilO ?_;intro nq hnq hltq;try refine zU ?_)|(refine MS.new ?_;intro bq hbq hbqf;try refine zU ?_)|(refine MS.nil ?_;intro nq hnq hltq;have hlq:=hltq _ _ (Hp.get_eq _ _ _);clear hltq;try refine zU ?_)|(refine LS.nilQ ?_;try with_reducible intro nq hnq;try refine zU ?_))
        have hl : i * m + k < N * m := Nat.lt_of_lt_of_le (Nat.add_lt_add_left hk' _) (by rw [← Nat.succ_mul]; exact Nat.mul_le_mul_right m hi')
        exact ⟨_, H, rfl, by exact zD, by rw [tb_false (fun q => h3 ((key i k hi' hk').1 (q (i * m + k) hl)))], rfl⟩
      · (repeat first|refine zG ?_|(refine LS.nilO ?_;intro nq hnq hltq;try refine zU ?_)|(refine MS.new ?_;intro bq hbq hbqf;try refine zU ?_)|(refine MS.nil ?_;intro nq hnq hltq;have hlq:=hltq _ _ (Hp.get_eq _ _ _);clear hltq;try refine zU ?_)|(refine LS.nilQ ?_;try with_reducible intro nq hnq;try refine zU ?_))
        refine ⟨by omega, by (repeat first | exact trivial | refine And.intro rfl ?_), by exact zD, fun k2 hk2 => ?_⟩
        by_cases e : k2 = k
        · rw [e]; exact (key i k hi' hk').2 h3
        · exact hJk k2 (by omega)
    · obtain rfl : m = k := by omega
      (repeat first|refine zG ?_|(refine LS.nilO ?_;intro nq hnq hltq;try refine zU ?_)|(refine MS.new ?_;intro bq hbq hbqf;try refine zU ?_)|(refine MS.nil ?_;intro nq hnq hltq;have hlq:=hltq _ _ (Hp.get_eq _ _ _);clear hltq;try refine zU ?_)|(refine LS.nilQ ?_;try with_reducible intro nq hnq;try refine zU ?_))
      refine ⟨by omega, by (repeat first | exact trivial | refine And.intro rfl ?_), Drops.refl _ _, fun i' k hi2 hk2 => ?_⟩
      by_cases e : i' = i
      · rw [e]; exact hJk k hk2
      · exact hJ i' k (by omega) hk2
  · obtain rfl : N = i := by omega
    (repeat first|refine zG ?_|(refine LS.nilO ?_;intro nq hnq hltq;try refine zU ?_)|(refine MS.new ?_;intro bq hbq hbqf;try refine zU ?_)|(refine MS.nil ?_;intro nq hnq hltq;have hlq:=hltq _ _ (Hp.get_eq _ _ _);clear hltq;try refine zU ?_)|(refine LS.nilQ ?_;try with_reducible intro nq hnq;try refine zU ?_))
    have hall : ∀ q, q < N * m → isIn h.p A m (ldl h.p t A m q) := fun q hq => by
      rcases Nat.eq_zero_or_pos m with e | e
      · rw [e] at hq; omega
      · have := hJ (q / m) (q % m) (Nat.div_lt_of_lt_mul (by rw [Nat.mul_comm]; exact hq)) (Nat.mod_lt _ e)
        rwa [Nat.mul_comm (q / m), Nat.div_add_mod] at this
    exact ⟨_, H, rfl, by exact zD, by rw [tb_true hall], rfl⟩

end Go.Proofs.YtkmfdhicjaccaaaGreat
