/- Dice, vectors that are drawn with them, the law's small functions. -/
import Derived.Test.YtgnphaopeplfbaaGreatDoorJba
import Derived.Test.YtgnphaopeplfbaaGreatDoorJaz
set_option linter.unusedSectionVars false
set_option linter.unusedVariables false
set_option linter.unusedSimpArgs false

namespace Go.Proofs.YtgnphaopeplfbaaGreatDoor

open Go.V

variable [BW]

set_option linter.unusedSimpArgs false

set_option linter.unusedVariables false

set_option maxHeartbeats 4000000

/-- laws.big -/
def ir4 : Cd := (.seq (.reg [⟨some 2,none,.mov (.c (.bool false))⟩]) (.seq (.reg [⟨some 3,none,.mov (.t 0)⟩,⟨some 4,none,.len (.t 3)⟩,⟨some 5,none,.bin .gtr (.t 4) (.c (.int .i64 4096))⟩,⟨some 2,none,.mov (.t 5)⟩]) .ret))

set_option maxRecDepth 100000 in
theorem tr4 : trFn Tryz.prog Tryz.f4 = some (6, ir4, [.tmp 2]) := by kernel_rfl

theorem laws_big (m0 : Nat) (sv : SV) (len : Nat) (f : Nat → Int) (H : Hp) (n : Nat) (hR : RA m0 1 sv len f) :
    FnS Tryz.prog 4 [.s sv] H n (fun r H' _ => r = bl (decide ((len : Int) > 4096)) ∧ H' = H) := by
  refine FnS.of_body Tryz.func4 tr4 (by simp) (fun hf => ?_)
  dsimp only [argEnv]
  unfold ir4
  (repeat first|refine zG ?_|(refine LS.nilO ?_;intro nq hnq hltq;try refine zU ?_)|(refine MS.new ?_;intro bq hbq hbqf;try refine zU ?_)|(refine MS.nil ?_;intro nq hnq hltq;have hlq:=hltq _ _ (Hp.get_eq _ _ _);clear hltq;try refine zU ?_)|(refine LS.nilQ ?_;try with_reducible intro nq hnq;try refine zU ?_))
  refine RS.lenR1 (by exact rfl) hR ?_
  (repeat first|refine zG ?_|(refine LS.nilO ?_;intro nq hnq hltq;try refine zU ?_)|(refine MS.new ?_;intro bq hbq hbqf;try refine zU ?_)|(refine MS.nil ?_;intro nq hnq hltq;have hlq:=hltq _ _ (Hp.get_eq _ _ _);clear hltq;try refine zU ?_)|(refine LS.nilQ ?_;try with_reducible intro nq hnq;try refine zU ?_))
  exact ⟨_, H, rfl, by exact zD, rfl, rfl⟩

/-- laws.basis5 -/
def ir11 : Cd := (.seq (.reg [⟨some 2,none,.new 25 [(8,(.int .u8 0))]⟩]) (.seq (.reg [⟨some 4,none,.build 8 [(8,(.int .u8 0))] []⟩,⟨some 3,none,.new 25 [(8,(.int .u8 0))]⟩,⟨none,none,.st 8 (.t 3) (.t 4)⟩]) (.seq (.reg [⟨some 5,none,.mov (.t 0)⟩,⟨some 6,none,.ia 8 1 (.t 3) (.t 5)⟩,⟨none,none,.st 1 (.t 6) (.c (.int .u8 1))⟩]) (.seq (.reg [⟨some 7,none,.ld (some 8) (.t 3)⟩,⟨none,none,.st 8 (.t 2) (.t 7)⟩]) .ret))))

set_option maxRecDepth 100000 in
theorem tr11 : trFn Tryz.prog Tryz.f11 = some (8, ir11, [.cell (some 8) 2]) := by kernel_rfl

theorem laws_basis5 (i : Nat) (H : Hp) (n : Nat) (hi : i < 8) :
    FnS Tryz.prog 11 [i64 i] H n (fun r H' _ => r = .arr 8 (bys (bas i)) ∧ H' = H) := by
  refine FnS.of_body Tryz.func11 tr11 (by simp) (fun hf => ?_)
  dsimp only [argEnv]
  unfold ir11
  (repeat first|refine zG ?_|(refine LS.nilO ?_;intro nq hnq hltq;try refine zU ?_)|(refine MS.new ?_;intro bq hbq hbqf;try refine zU ?_)|(refine MS.nil ?_;intro nq hnq hltq;have hlq:=hltq _ _ (Hp.get_eq _ _ _);clear hltq;try refine zU ?_)|(refine LS.nilQ ?_;try with_reducible intro nq hnq;try refine zU ?_))
  exact ⟨.arr 8 (bys (bas i)), H, conc_arr (fun q hq => by simp only [Nat.zero_add, put1, bys, bas]; split <;> rfl), by exact zD, rfl, rfl⟩

/-- (*laws.dice).below -/
def ir31 : Cd := (.seq (.reg [⟨some 4,none,.mov (.c (.int .i64 0))⟩]) (.seq (.seq (.reg [⟨some 6,none,.mov (.t 1)⟩,⟨some 7,none,.bin .lss (.t 6) (.c (.int .i64 1))⟩]) (.cond (.t 7) (.seq (.reg [⟨some 4,none,.mov (.c (.int .i64 0))⟩]) .ret) .skip)) (.seq (.reg [⟨some 8,none,.mov (.t 0)⟩,⟨some 9,none,.mov (.t 0)⟩,⟨some 10,none,.ck (.t 9)⟩,⟨some 11,none,.fa 2 (.t 10)⟩,⟨some 12,none,.ld none (.t 11)⟩,⟨some 13,none,.bin .mul (.t 12) (.c (.int .u64 6364136223846793005))⟩,⟨some 14,none,.bin .add (.t 13) (.c (.int .u64 1442695040888963407))⟩,⟨some 15,none,.ck (.t 8)⟩,⟨some 16,none,.fa 2 (.t 15)⟩,⟨none,none,.st 1 (.t 16) (.t 14)⟩]) (.seq (.reg [⟨some 17,none,.mov (.t 0)⟩,⟨some 18,none,.ck (.t 17)⟩,⟨some 19,none,.fa 2 (.t 18)⟩,⟨some 20,none,.ld none (.t 19)⟩,⟨some 21,none,.bin .shr (.t 20) (.c (.int .u64 33))⟩,⟨some 22,none,.bin .and (.t 21) (.c (.int .u64 16777215))⟩,⟨some 23,none,.cv .i64 (.t 22)⟩,⟨some 5,none,.mov (.t 23)⟩]) (.seq (.seq (.drw true [] [⟨some 24,none,.mov (.t 0)⟩,⟨some 25,none,.ck (.t 24)⟩,⟨some 26,none,.fa 1 (.t 25)⟩,⟨some 27,none,.ld none (.t 26)⟩,⟨some 28,none,.mov (.t 0)⟩,⟨some 29,none,.ck (.t 28)⟩,⟨some 30,none,.fa 0 (.t 29)⟩,⟨some 31,none,.ld none (.t 30)⟩,⟨some 32,none,.len (.t 31)⟩,⟨some 33,none,.bin .lss (.t 27) (.t 32)⟩]) (.cond (.t 33) (.seq (.drw true [] [⟨some 34,none,.mov (.t 5)⟩,⟨some 35,none,.mov (.t 0)⟩,⟨some 36,none,.ck (.t 35)⟩,⟨some 37,none,.fa 0 (.t 36)⟩,⟨some 38,none,.ld none (.t 37)⟩,⟨some 39,none,.mov (.t 0)⟩,⟨some 40,none,.ck (.t 39)⟩,⟨some 41,none,.fa 1 (.t 40)⟩,⟨some 42,none,.ld none (.t 41)⟩,⟨some 43,none,.isl 1 (.t 38) (.t 42)⟩,⟨some 44,none,.ld none (.t 43)⟩,⟨some 45,none,.cv .i64 (.t 44)⟩,⟨some 46,none,.bin .add (.t 34) (.t 45)⟩,⟨some 5,none,.mov (.t 46)⟩]) (.reg [⟨some 47,none,.mov (.t 0)⟩,⟨some 48,none,.mov (.t 0)⟩,⟨some 49,none,.ck (.t 48)⟩,⟨some 50,none,.fa 1 (.t 49)⟩,⟨some 51,none,.ld none (.t 50)⟩,⟨some 52,none,.bin .add (.t 51) (.c (.int .i64 1))⟩,⟨some 53,none,.ck (.t 47)⟩,⟨some 54,none,.fa 1 (.t 53)⟩,⟨none,none,.st 1 (.t 54) (.t 52)⟩])) .skip)) (.seq (.reg [⟨some 55,none,.mov (.t 5)⟩,⟨some 56,none,.mov (.t 1)⟩,⟨some 57,none,.bin .rem (.t 55) (.t 56)⟩,⟨some 4,none,.mov (.t 57)⟩]) .ret))))))

set_option maxRecDepth 100000 in
theorem tr31 : trFn Tryz.prog Tryz.f31 = some (58, ir31, [.tmp 4]) := by kernel_rfl

theorem dice_below (m0 : Nat) (sv : SV) (len : Nat) (f : Nat → Int) (b : Nat) (t : TypeId) (k : Int) (H : Hp) (n : Nat) (hR : RA m0 1 sv len f) (hfb : ∀ i, i < 1 * len → 0 ≤ f i ∧ f i ≤ 255) (hlen : len ≤ 4096) (hm : ∀ x, x < m0 → H.get x = none) (hbm : m0 ≤ b) (hS : SRQ H b t sv len) :
    FnS Tryz.prog 31 [ptr b 0, i64 k] H n (fun r H' _ => ∃ x : Int, r = i64 x ∧ 0 ≤ x ∧ (1 ≤ k → x < k) ∧ (k < 1 → x = 0) ∧ SRQ H' b t sv len ∧ ∀ y, y ≠ b → H'.get y = H.get y) := by
  obtain ⟨K, gS, sS, tS, c0, ⟨j, c1, hj⟩, hh, c2⟩ := id hS
  have c1' : K.c (0 + 1) = .int .i64 (j : Nat) := c1
  have c2' : K.c (0 + 2) = .int .u64 hh := c2
  refine FnS.of_body Tryz.func31 tr31 (by simp) (fun hf => ?_)
  dsimp only [argEnv]
  unfold ir31
  have hbn := getlt hf gS
  (repeat first|refine zG ?_|(refine LS.nilO ?_;intro nq hnq hltq;try refine zU ?_)|(refine MS.new ?_;intro bq hbq hbqf;try refine zU ?_)|(refine MS.nil ?_;intro nq hnq hltq;have hlq:=hltq _ _ (Hp.get_eq _ _ _);clear hltq;try refine zU ?_)|(refine LS.nilQ ?_;try with_reducible intro nq hnq;try refine zU ?_))
  refine zI ?_ ?_<;>intro h1
  · (repeat first|refine zG ?_|(refine LS.nilO ?_;intro nq hnq hltq;try refine zU ?_)|(refine MS.new ?_;intro bq hbq hbqf;try refine zU ?_)|(refine MS.nil ?_;intro nq hnq hltq;have hlq:=hltq _ _ (Hp.get_eq _ _ _);clear hltq;try refine zU ?_)|(refine LS.nilQ ?_;try with_reducible intro nq hnq;try refine zU ?_))
    exact ⟨_, H, rfl, by exact zD, 0, rfl, by omega, fun q => by omega, fun _ => rfl, hS, fun y _ => rfl⟩
  (repeat first|refine zG ?_|(refine LS.nilO ?_;intro nq hnq hltq;try refine zU ?_)|(refine MS.new ?_;intro bq hbq hbqf;try refine zU ?_)|(refine MS.nil ?_;intro nq hnq hltq;have hlq:=hltq _ _ (Hp.get_eq _ _ _);clear hltq;try refine zU ?_)|(refine LS.nilQ ?_;try with_reducible intro nq hnq;try refine zU ?_))
  refine RS.mulw (by exact rfl) (by exact rfl) ?_
  (repeat first|refine zG ?_|(refine LS.nilO ?_;intro nq hnq hltq;try refine zU ?_)|(refine MS.new ?_;intro bq hbq hbqf;try refine zU ?_)|(refine MS.nil ?_;intro nq hnq hltq;have hlq:=hltq _ _ (Hp.get_eq _ _ _);clear hltq;try refine zU ?_)|(refine LS.nilQ ?_;try with_reducible intro nq hnq;try refine zU ?_))
  refine RS.addw (by exact rfl) (by exact rfl) ?_
  generalize IntKind.u64.wrap (IntKind.u64.wrap (hh * 6364136223846793005) + 1442695040888963407) = hash
  (repeat first|refine zG ?_|(refine LS.nilO ?_;intro nq hnq hltq;try refine zU ?_)|(refine MS.new ?_;intro bq hbq hbqf;try refine zU ?_)|(refine MS.nil ?_;intro nq hnq hltq;have hlq:=hltq _ _ (Hp.get_eq _ _ _);clear hltq;try refine zU ?_)|(refine LS.nilQ ?_;try with_reducible intro nq hnq;try refine zU ?_))
  refine RS.shrw (by exact rfl) (by exact rfl) (by omega) (fun hs => ?_)
  (repeat first|refine zG ?_|(refine LS.nilO ?_;intro nq hnq hltq;try refine zU ?_)|(refine MS.new ?_;intro bq hbq hbqf;try refine zU ?_)|(refine MS.nil ?_;intro nq hnq hltq;have hlq:=hltq _ _ (Hp.get_eq _ _ _);clear hltq;try refine zU ?_)|(refine LS.nilQ ?_;try with_reducible intro nq hnq;try refine zU ?_))
  refine RS.andw (by exact rfl) (by exact rfl) ?_
  obtain ⟨x, hx, ex⟩ := wrap24 hs
  rw [ex]
  (repeat first|refine zG ?_|(refine LS.nilO ?_;intro nq hnq hltq;try refine zU ?_)|(refine MS.new ?_;intro bq hbq hbqf;try refine zU ?_)|(refine MS.nil ?_;intro nq hnq hltq;have hlq:=hltq _ _ (Hp.get_eq _ _ _);clear hltq;try refine zU ?_)|(refine LS.nilQ ?_;try with_reducible intro nq hnq;try refine zU ?_))
  refine RS.lenR1 (by exact rfl) hR ?_
  (repeat first|refine zG ?_|(refine LS.nilO ?_;intro nq hnq hltq;try refine zU ?_)|(refine MS.new ?_;intro bq hbq hbqf;try refine zU ?_)|(refine MS.nil ?_;intro nq hnq hltq;have hlq:=hltq _ _ (Hp.get_eq _ _ _);clear hltq;try refine zU ?_)|(refine LS.nilQ ?_;try with_reducible intro nq hnq;try refine zU ?_))
  have gS1 : (H.set b (put1 K.c 2 (SV.int .u64 hash))).get b = some ⟨K.size, put1 K.c 2 (SV.int .u64 hash), K.ty⟩ := Hp.get_set_self _ gS
  have lo1 : ∀ y, y ≠ b → (H.set b (put1 K.c 2 (SV.int .u64 hash))).get y = H.get y := fun y hy => Hp.get_set_other _ (fun q => hy q.symm)
  generalize H.set b (put1 K.c 2 (SV.int .u64 hash)) = H1 at *
  refine zI ?_ ?_<;>intro h2
  · have hj' : j < len := by omega
    obtain ⟨cb, co, cap, rfl, hcap, hcb, hcell⟩ : ∃ cb co cap, sv = .slc cb co len cap ∧ len ≤ cap ∧ cb < m0 ∧ ∀ i, i < 1 * len → BW.cell cb (co + i) = some (.int .u8 (f i)) := by
      rcases hR with ⟨_, q⟩ | ⟨b, o, cap, q⟩
      · omega
      · exact ⟨b, o, cap, q⟩
    have hfj := hfb (j * 1) (by omega)
    (repeat first|refine zG ?_|(refine LS.nilO ?_;intro nq hnq hltq;try refine zU ?_)|(refine MS.new ?_;intro bq hbq hbqf;try refine zU ?_)|(refine MS.nil ?_;intro nq hnq hltq;have hlq:=hltq _ _ (Hp.get_eq _ _ _);clear hltq;try refine zU ?_)|(refine LS.nilQ ?_;try with_reducible intro nq hnq;try refine zU ?_))
    refine RS.rd1 (q := j * 1) (z' := 1 * len) (f := f) (by exact rfl) (by rw [lo1 _ (by omega)]; exact hm _ hcb) hcell (by omega) ?_
    (repeat first|refine zG ?_|(refine LS.nilO ?_;intro nq hnq hltq;try refine zU ?_)|(refine MS.new ?_;intro bq hbq hbqf;try refine zU ?_)|(refine MS.nil ?_;intro nq hnq hltq;have hlq:=hltq _ _ (Hp.get_eq _ _ _);clear hltq;try refine zU ?_)|(refine LS.nilQ ?_;try with_reducible intro nq hnq;try refine zU ?_))
    have hx0 : 0 ≤ (x : Int) + f (j * 1) := by omega
    exact ⟨i64 (((x : Int) + f (j * 1)) % k), _, rfl, Drops.refl _ _, _, rfl, Int.emod_nonneg _ (by omega), fun _ => Int.emod_lt_of_pos _ (by omega), fun q => by omega, ⟨_, Hp.get_set_self _ gS1, sS, tS, c0, ⟨j + 1, by (try dsimp only); first | rfl | exact congrArg (SV.int .i64) (by omega), by omega⟩, _, rfl⟩, fun y hy => by rw [Hp.get_set_other _ (fun q => hy q.symm)]; exact lo1 y hy⟩
  · (repeat first|refine zG ?_|(refine LS.nilO ?_;intro nq hnq hltq;try refine zU ?_)|(refine MS.new ?_;intro bq hbq hbqf;try refine zU ?_)|(refine MS.nil ?_;intro nq hnq hltq;have hlq:=hltq _ _ (Hp.get_eq _ _ _);clear hltq;try refine zU ?_)|(refine LS.nilQ ?_;try with_reducible intro nq hnq;try refine zU ?_))
    exact ⟨i64 ((x : Int) % k), H1, rfl, Drops.refl _ _, _, rfl, Int.emod_nonneg _ (by omega), fun _ => Int.emod_lt_of_pos _ (by omega), fun q => by omega, ⟨_, gS1, sS, tS, c0, ⟨j, c1, hj⟩, _, rfl⟩, lo1⟩

/-- laws.vector9 -/
def ir8 : Cd := (.seq (.reg [⟨some 6,none,.new 25 [(8,(.int .u8 0))]⟩]) (.seq (.reg [⟨some 9,none,.build 8 [(8,(.int .u8 0))] []⟩,⟨some 7,none,.new 25 [(8,(.int .u8 0))]⟩,⟨none,none,.st 8 (.t 7) (.t 9)⟩]) (.seq (.seq (.reg [⟨some 8,none,.mov (.c (.int .i64 0))⟩]) (.block 0 (.loop (.seq (.seq (.reg [⟨some 10,none,.mov (.t 8)⟩,⟨some 11,none,.mov (.t 2)⟩,⟨some 12,none,.bin .lss (.t 10) (.t 11)⟩]) (.cond (.t 12) .skip (.exit 0))) (.seq (.block 1 (.reg [⟨some 15,none,.mov (.t 8)⟩,⟨some 16,none,.mov (.t 0)⟩,⟨some 17,none,.mov (.t 1)⟩,⟨some 18,none,.call 31 [(.t 16),(.t 17)]⟩,⟨some 19,none,.cv .u8 (.t 18)⟩,⟨some 20,none,.ia 8 1 (.t 7) (.t 15)⟩,⟨none,none,.st 1 (.t 20) (.t 19)⟩])) (.reg [⟨some 13,none,.mov (.t 8)⟩,⟨some 14,none,.bin .add (.t 13) (.c (.int .i64 1))⟩,⟨some 8,none,.mov (.t 14)⟩])))))) (.seq (.reg [⟨some 21,none,.ld (some 8) (.t 7)⟩,⟨none,none,.st 8 (.t 6) (.t 21)⟩]) .ret))))

set_option maxRecDepth 100000 in
theorem tr8 : trFn Tryz.prog Tryz.f8 = some (22, ir8, [.cell (some 8) 6]) := by kernel_rfl

theorem laws_vector9 (m0 : Nat) (sv : SV) (len : Nat) (f : Nat → Int) (b : Nat) (t : TypeId) (p : Int) (a : Nat) (H : Hp) (n : Nat) (hR : RA m0 1 sv len f) (hfb : ∀ i, i < 1 * len → 0 ≤ f i ∧ f i ≤ 255) (hlen : len ≤ 4096) (hm : ∀ x, x < m0 → H.get x = none) (hbm : m0 ≤ b) (hS : SRQ H b t sv len) (hp : 2 ≤ p ∧ p ≤ 31) (ha : a ≤ 8) :
    FnS Tryz.prog 8 [ptr b 0, i64 p, i64 a] H n (fun r H' _ => ∃ v, r = .arr 8 (bys v) ∧ isBy 8 v ∧ isVec p a v ∧ ∀ y, y < n → y ≠ b → H'.get y = H.get y) := by
  obtain ⟨K, gS, -⟩ := id hS
  refine FnS.of_body Tryz.func8 tr8 (by simp) (fun hf => ?_)
  dsimp only [argEnv]
  unfold ir8
  have hbn := getlt hf gS
  (repeat first|refine zG ?_|(refine LS.nilO ?_;intro nq hnq hltq;try refine zU ?_)|(refine MS.new ?_;intro bq hbq hbqf;try refine zU ?_)|(refine MS.nil ?_;intro nq hnq hltq;have hlq:=hltq _ _ (Hp.get_eq _ _ _);clear hltq;try refine zU ?_)|(refine LS.nilQ ?_;try with_reducible intro nq hnq;try refine zU ?_))
  refine CS.iterJ a (fun i => [(8, i64 (i : Nat)), (0, ptr b 0), (1, i64 p), (2, i64 (a : Nat)), (6, ptr n 0), (7, ptr (n + 1) 0)]) (fun i H1 n1 => ∃ v, (∃ k7, H1.get (n + 1) = some k7 ∧ k7.size = 8 ∧ ∀ q, q < 8 → k7.c q = .int .u8 (v q)) ∧ isRes p 8 v ∧ (∀ q, i ≤ q → v q = 0) ∧ (∃ k6, H1.get n = some k6 ∧ k6.size = 8) ∧ SRQ H1 b t sv len ∧ (∀ y, y < n → y ≠ b → H1.get y = H.get y) ∧ ∀ x, n1 ≤ x → H1.get x = none) (by (repeat first | exact trivial | refine And.intro rfl ?_)) ?_ ?_
  · exact ⟨fun _ => 0, ⟨_, Hp.get_eq _ _ _, rfl, fun q hq => by
      rcases (show q = 0 ∨ q = 1 ∨ q = 2 ∨ q = 3 ∨ q = 4 ∨ q = 5 ∨ q = 6 ∨ q = 7 by omega) with rfl | rfl | rfl | rfl | rfl | rfl | rfl | rfl <;> rfl⟩, fun q hq => by (try dsimp only); omega, fun q hq => rfl, ⟨_, by exact zH, rfl⟩, hS.keep (by simp (disch := omega) only [Hp.get_ne]), fun y hy hyb => by simp (disch := omega) only [Hp.get_ne], fun x hx => by simp (disch := omega) only [Hp.get_ne]; exact hf x (by omega)⟩
  rintro i n1 H1 hi hn1 ⟨v, ⟨k7, g7, s7, c7⟩, hv, hz, ⟨k6, g6, s6⟩, hS1, lo1, hfr1⟩
  have hm1 : ∀ x, x < m0 → H1.get x = none := fun x hx => by rw [lo1 x (by omega) (by omega)]; exact hm x hx
  have h71 := getlt hfr1 g7
  (repeat first|refine zG ?_|(refine LS.nilO ?_;intro nq hnq hltq;try refine zU ?_)|(refine MS.new ?_;intro bq hbq hbqf;try refine zU ?_)|(refine MS.nil ?_;intro nq hnq hltq;have hlq:=hltq _ _ (Hp.get_eq _ _ _);clear hltq;try refine zU ?_)|(refine LS.nilQ ?_;try with_reducible intro nq hnq;try refine zU ?_))
  refine zI ?_ ?_<;>intro h1
  · have hi' : i < a := by omega
    (repeat first|refine zG ?_|(refine LS.nilO ?_;intro nq hnq hltq;try refine zU ?_)|(refine MS.new ?_;intro bq hbq hbqf;try refine zU ?_)|(refine MS.nil ?_;intro nq hnq hltq;have hlq:=hltq _ _ (Hp.get_eq _ _ _);clear hltq;try refine zU ?_)|(refine LS.nilQ ?_;try with_reducible intro nq hnq;try refine zU ?_))
    refine RS.call rfl ((dice_below m0 sv len f b t p _ _ hR hfb hlen hm1 hbm hS1).mono ?_)
    rintro r H2 n2 hn2 ⟨x, rfl, x0, x1, -, hS2, lo2⟩
    replace x1 := x1 (by omega)
    have g72 : H2.get (n + 1) = some k7 := by rw [lo2 (n + 1) (by omega)]; exact g7
    have g62 : H2.get n = some k6 := by rw [lo2 n (by omega)]; exact g6
    have hfr2 : ∀ x, n2 ≤ x → H2.get x = none := fun x hx => by rw [lo2 x (by omega)]; exact hfr1 x (by omega)
    (repeat first|refine zG ?_|(refine LS.nilO ?_;intro nq hnq hltq;try refine zU ?_)|(refine MS.new ?_;intro bq hbq hbqf;try refine zU ?_)|(refine MS.nil ?_;intro nq hnq hltq;have hlq:=hltq _ _ (Hp.get_eq _ _ _);clear hltq;try refine zU ?_)|(refine LS.nilQ ?_;try with_reducible intro nq hnq;try refine zU ?_))
    exact ⟨by omega, by (repeat first | exact trivial | refine And.intro rfl ?_), _, Drops.refl _ _, fun q => if q = i then x else v q, ⟨_, Hp.get_set_self _ g72, s7, fun q hq => by
      (try dsimp only)
      unfold put1
      by_cases e : q = i
      · rw [if_pos (by omega), if_pos e]
      · rw [if_neg (by omega), if_neg e]; exact c7 q hq⟩, fun q hq => by
      (try dsimp only)
      split
      · omega
      · exact hv q hq, fun q hq => by
      (try dsimp only)
      rw [if_neg (by omega)]; exact hz q (by omega), ⟨k6, by rw [Hp.get_set_other _ (by omega)]; exact g62, s6⟩, hS2.keep (Hp.get_set_other _ (by omega)), fun z hz hzb => by rw [Hp.get_set_other _ (by omega), lo2 z hzb]; exact lo1 z hz hzb, fun z hz => by rw [Hp.get_set_other _ (by omega)]; exact hfr2 z (by omega)⟩
  · obtain rfl : i = a := by omega
    (repeat first|refine zG ?_|(refine LS.nilO ?_;intro nq hnq hltq;try refine zU ?_)|(refine MS.new ?_;intro bq hbq hbqf;try refine zU ?_)|(refine MS.nil ?_;intro nq hnq hltq;have hlq:=hltq _ _ (Hp.get_eq _ _ _);clear hltq;try refine zU ?_)|(refine LS.nilQ ?_;try with_reducible intro nq hnq;try refine zU ?_))
    exact ⟨.arr 8 (bys v), _, conc_arr (fun q hq => by rw [Nat.zero_add q]; unfold splice; rw [if_pos (by omega), Nat.sub_zero]; exact c7 q hq), Drops.refl _ _, v, rfl, isRes.by hv hp.2, fun q hq => ⟨(hv q hq).2, fun z => hz q (by omega)⟩, fun y hy hyb => by rw [Hp.get_set_other _ (by omega)]; exact lo1 y hy hyb⟩

end Go.Proofs.YtgnphaopeplfbaaGreatDoor

/- The dice of a code. -/

namespace Go.Proofs.YtgnphaopeplfbaaGreatDoor

open Go.V

variable [BW]

set_option linter.unusedSimpArgs false

set_option linter.unusedVariables false

set_option maxHeartbeats 4000000

/-- laws.roll -/
def ir9 : Cd := (.seq (.reg [⟨some 4,none,.mov (.c .nil)⟩]) (.seq (.reg [⟨some 7,none,.mov (.t 0)⟩,⟨some 8,none,.mov (.t 1)⟩,⟨some 9,none,.bin .mul (.t 8) (.c (.int .u64 6257))⟩,⟨some 10,none,.mov (.t 0)⟩,⟨some 11,none,.len (.t 10)⟩,⟨some 12,none,.cv .u64 (.t 11)⟩,⟨some 13,none,.bin .add (.t 9) (.t 12)⟩,⟨some 14,none,.build 3 [(1,.nils),(1,(.int .i64 0)),(1,(.int .u64 0))] [(0,1,(.t 7)),(2,1,(.t 13))]⟩,⟨some 15,none,.box 64 (.t 14)⟩,⟨some 5,none,.mov (.t 15)⟩]) (.seq (.seq (.reg [⟨some 6,none,.mov (.c (.int .i64 0))⟩]) (.block 0 (.loop (.seq (.seq (.reg [⟨some 16,none,.mov (.t 6)⟩,⟨some 17,none,.mov (.t 0)⟩,⟨some 18,none,.len (.t 17)⟩,⟨some 19,none,.bin .lss (.t 16) (.t 18)⟩]) (.cond (.t 19) .skip (.exit 0))) (.seq (.block 1 (.drw true [15] [⟨some 22,none,.mov (.t 5)⟩,⟨some 23,none,.mov (.t 5)⟩,⟨some 24,none,.ck (.t 23)⟩,⟨some 25,none,.fa 2 (.t 24)⟩,⟨some 26,none,.ld none (.t 25)⟩,⟨some 27,none,.bin .mul (.t 26) (.c (.int .u64 1099511628211))⟩,⟨some 28,none,.mov (.t 0)⟩,⟨some 29,none,.mov (.t 6)⟩,⟨some 30,none,.isl 1 (.t 28) (.t 29)⟩,⟨some 31,none,.ld none (.t 30)⟩,⟨some 32,none,.cv .u64 (.t 31)⟩,⟨some 33,none,.bin .add (.t 27) (.t 32)⟩,⟨some 34,none,.bin .add (.t 33) (.c (.int .u64 5))⟩,⟨some 35,none,.ck (.t 22)⟩,⟨some 36,none,.fa 2 (.t 35)⟩,⟨none,none,.st 1 (.t 36) (.t 34)⟩])) (.reg [⟨some 20,none,.mov (.t 6)⟩,⟨some 21,none,.bin .add (.t 20) (.c (.int .i64 1))⟩,⟨some 6,none,.mov (.t 21)⟩])))))) (.seq (.reg [⟨some 37,none,.mov (.t 5)⟩,⟨some 4,none,.mov (.t 37)⟩]) .ret))))

set_option maxRecDepth 100000 in
theorem tr9 : trFn Tryz.prog Tryz.f9 = some (38, ir9, [.tmp 4]) := by kernel_rfl

theorem laws_roll (m0 : Nat) (sv : SV) (len : Nat) (f : Nat → Int) (H : Hp) (n : Nat) (hR : RA m0 1 sv len f) (hfb : ∀ i, i < 1 * len → 0 ≤ f i ∧ f i ≤ 255) (hlen : len ≤ 4096) (hm : ∀ x, x < m0 → H.get x = none) (hmn : m0 ≤ n) :
    FnS Tryz.prog 9 [.s sv, .s (.int .u64 9801)] H n (fun r H' n' => ∃ b, r = ptr b 0 ∧ n ≤ b ∧ b < n' ∧ SRQ H' b 64 sv len ∧ ∀ y, y < n → H'.get y = H.get y) := by
  refine FnS.of_body Tryz.func9 tr9 (by simp) (fun hf => ?_)
  dsimp only [argEnv]
  unfold ir9
  (repeat first|refine zG ?_|(refine LS.nilO ?_;intro nq hnq hltq;try refine zU ?_)|(refine MS.new ?_;intro bq hbq hbqf;try refine zU ?_)|(refine MS.nil ?_;intro nq hnq hltq;have hlq:=hltq _ _ (Hp.get_eq _ _ _);clear hltq;try refine zU ?_)|(refine LS.nilQ ?_;try with_reducible intro nq hnq;try refine zU ?_))
  refine RS.mulw (by exact rfl) (by exact rfl) ?_
  (repeat first|refine zG ?_|(refine LS.nilO ?_;intro nq hnq hltq;try refine zU ?_)|(refine MS.new ?_;intro bq hbq hbqf;try refine zU ?_)|(refine MS.nil ?_;intro nq hnq hltq;have hlq:=hltq _ _ (Hp.get_eq _ _ _);clear hltq;try refine zU ?_)|(refine LS.nilQ ?_;try with_reducible intro nq hnq;try refine zU ?_))
  refine RS.lenR1 (by exact rfl) hR ?_
  (repeat first|refine zG ?_|(refine LS.nilO ?_;intro nq hnq hltq;try refine zU ?_)|(refine MS.new ?_;intro bq hbq hbqf;try refine zU ?_)|(refine MS.nil ?_;intro nq hnq hltq;have hlq:=hltq _ _ (Hp.get_eq _ _ _);clear hltq;try refine zU ?_)|(refine LS.nilQ ?_;try with_reducible intro nq hnq;try refine zU ?_))
  refine RS.cvw (by exact rfl) ?_
  (repeat first|refine zG ?_|(refine LS.nilO ?_;intro nq hnq hltq;try refine zU ?_)|(refine MS.new ?_;intro bq hbq hbqf;try refine zU ?_)|(refine MS.nil ?_;intro nq hnq hltq;have hlq:=hltq _ _ (Hp.get_eq _ _ _);clear hltq;try refine zU ?_)|(refine LS.nilQ ?_;try with_reducible intro nq hnq;try refine zU ?_))
  refine RS.addw (by exact rfl) (by exact rfl) ?_
  generalize IntKind.u64.wrap (IntKind.u64.wrap (9801 * 6257) + IntKind.u64.wrap (len : Int)) = hash
  (repeat first|refine zG ?_|(refine LS.nilO ?_;intro nq hnq hltq;try refine zU ?_)|(refine MS.new ?_;intro bq hbq hbqf;try refine zU ?_)|(refine MS.nil ?_;intro nq hnq hltq;have hlq:=hltq _ _ (Hp.get_eq _ _ _);clear hltq;try refine zU ?_)|(refine LS.nilQ ?_;try with_reducible intro nq hnq;try refine zU ?_))
  refine CS.iterJ len (fun i => [(6, i64 (i : Nat)), (5, ptr n 0), (0, .s sv)]) (fun i H1 n1 => ∃ K, H1.get n = some K ∧ K.size = 3 ∧ K.ty = 64 ∧ K.c 0 = sv ∧ K.c 1 = .int .i64 0 ∧ (∃ h, K.c 2 = .int .u64 h) ∧ (∀ y, y < n → H1.get y = H.get y) ∧ ∀ x, n1 ≤ x → H1.get x = none) (by (repeat first | exact trivial | refine And.intro rfl ?_)) ⟨_, Hp.get_eq _ _ _, rfl, rfl, rfl, rfl, ⟨_, rfl⟩, fun y hy => Hp.get_ne _ _ (by omega), fun x hx => by rw [Hp.get_ne _ _ (by omega)]; exact hf x (by omega)⟩ ?_
  rintro i n1 H1 hi hn1 ⟨K, gK, sK, tK, c0, c1, ⟨h0, c2⟩, lo1, hfr1⟩
  have c2' : K.c (0 + 2) = .int .u64 h0 := c2
  have hnl := getlt hfr1 gK
  (repeat first|refine zG ?_|(refine LS.nilO ?_;intro nq hnq hltq;try refine zU ?_)|(refine MS.new ?_;intro bq hbq hbqf;try refine zU ?_)|(refine MS.nil ?_;intro nq hnq hltq;have hlq:=hltq _ _ (Hp.get_eq _ _ _);clear hltq;try refine zU ?_)|(refine LS.nilQ ?_;try with_reducible intro nq hnq;try refine zU ?_))
  refine RS.lenR1 (by exact rfl) hR ?_
  (repeat first|refine zG ?_|(refine LS.nilO ?_;intro nq hnq hltq;try refine zU ?_)|(refine MS.new ?_;intro bq hbq hbqf;try refine zU ?_)|(refine MS.nil ?_;intro nq hnq hltq;have hlq:=hltq _ _ (Hp.get_eq _ _ _);clear hltq;try refine zU ?_)|(refine LS.nilQ ?_;try with_reducible intro nq hnq;try refine zU ?_))
  refine zI ?_ ?_<;>intro h1
  · have hi' : i < len := by omega
    obtain ⟨cb, co, cap, rfl, hcap, hcb, hcell⟩ : ∃ cb co cap, sv = .slc cb co len cap ∧ len ≤ cap ∧ cb < m0 ∧ ∀ i, i < 1 * len → BW.cell cb (co + i) = some (.int .u8 (f i)) := by
      rcases hR with ⟨_, q⟩ | ⟨b, o, cap, q⟩
      · omega
      · exact ⟨b, o, cap, q⟩
    have hfi := hfb (i * 1) (by omega)
    (repeat first|refine zG ?_|(refine LS.nilO ?_;intro nq hnq hltq;try refine zU ?_)|(refine MS.new ?_;intro bq hbq hbqf;try refine zU ?_)|(refine MS.nil ?_;intro nq hnq hltq;have hlq:=hltq _ _ (Hp.get_eq _ _ _);clear hltq;try refine zU ?_)|(refine LS.nilQ ?_;try with_reducible intro nq hnq;try refine zU ?_))
    refine RS.mulw (by exact rfl) (by exact rfl) ?_
    (repeat first|refine zG ?_|(refine LS.nilO ?_;intro nq hnq hltq;try refine zU ?_)|(refine MS.new ?_;intro bq hbq hbqf;try refine zU ?_)|(refine MS.nil ?_;intro nq hnq hltq;have hlq:=hltq _ _ (Hp.get_eq _ _ _);clear hltq;try refine zU ?_)|(refine LS.nilQ ?_;try with_reducible intro nq hnq;try refine zU ?_))
    refine RS.rd1 (q := i * 1) (z' := 1 * len) (f := f) (by exact rfl) (by rw [lo1 _ (by omega)]; exact hm _ hcb) hcell (by omega) ?_
    (repeat first|refine zG ?_|(refine LS.nilO ?_;intro nq hnq hltq;try refine zU ?_)|(refine MS.new ?_;intro bq hbq hbqf;try refine zU ?_)|(refine MS.nil ?_;intro nq hnq hltq;have hlq:=hltq _ _ (Hp.get_eq _ _ _);clear hltq;try refine zU ?_)|(refine LS.nilQ ?_;try with_reducible intro nq hnq;try refine zU ?_))
    refine RS.cvw (by exact rfl) ?_
    (repeat first|refine zG ?_|(refine LS.nilO ?_;intro nq hnq hltq;try refine zU ?_)|(refine MS.new ?_;intro bq hbq hbqf;try refine zU ?_)|(refine MS.nil ?_;intro nq hnq hltq;have hlq:=hltq _ _ (Hp.get_eq _ _ _);clear hltq;try refine zU ?_)|(refine LS.nilQ ?_;try with_reducible intro nq hnq;try refine zU ?_))
    refine RS.addw (by exact rfl) (by exact rfl) ?_
    (repeat first|refine zG ?_|(refine LS.nilO ?_;intro nq hnq hltq;try refine zU ?_)|(refine MS.new ?_;intro bq hbq hbqf;try refine zU ?_)|(refine MS.nil ?_;intro nq hnq hltq;have hlq:=hltq _ _ (Hp.get_eq _ _ _);clear hltq;try refine zU ?_)|(refine LS.nilQ ?_;try with_reducible intro nq hnq;try refine zU ?_))
    refine RS.addw (by exact rfl) (by exact rfl) ?_
    generalize IntKind.u64.wrap (IntKind.u64.wrap (IntKind.u64.wrap (h0 * 1099511628211) + IntKind.u64.wrap (f (i * 1))) + 5) = hash2
    (repeat first|refine zG ?_|(refine LS.nilO ?_;intro nq hnq hltq;try refine zU ?_)|(refine MS.new ?_;intro bq hbq hbqf;try refine zU ?_)|(refine MS.nil ?_;intro nq hnq hltq;have hlq:=hltq _ _ (Hp.get_eq _ _ _);clear hltq;try refine zU ?_)|(refine LS.nilQ ?_;try with_reducible intro nq hnq;try refine zU ?_))
    exact ⟨by omega, by (repeat first | exact trivial | refine And.intro rfl ?_), _, Drops.refl _ _, _, Hp.get_set_self _ gK, sK, tK, c0, c1, ⟨_, rfl⟩, fun y hy => by rw [Hp.get_set_other _ (by omega)]; exact lo1 y hy, fun x hx => by rw [Hp.get_set_other _ (by omega)]; exact hfr1 x (by omega)⟩
  · obtain rfl : i = len := by omega
    (repeat first|refine zG ?_|(refine LS.nilO ?_;intro nq hnq hltq;try refine zU ?_)|(refine MS.new ?_;intro bq hbq hbqf;try refine zU ?_)|(refine MS.nil ?_;intro nq hnq hltq;have hlq:=hltq _ _ (Hp.get_eq _ _ _);clear hltq;try refine zU ?_)|(refine LS.nilQ ?_;try with_reducible intro nq hnq;try refine zU ?_))
    exact ⟨ptr n 0, H1, rfl, Drops.refl _ _, n, rfl, by omega, by omega, ⟨K, gK, sK, tK, c0, ⟨0, c1, by omega⟩, h0, c2⟩, lo1⟩

end Go.Proofs.YtgnphaopeplfbaaGreatDoor

/- Left tables, powers, traces. -/

namespace Go.V

set_option linter.unusedSimpArgs false

set_option linter.unusedVariables false

theorem lft_dg (p : Int) (m v : Nat → Int) (a : Nat) (ha : a ≤ 8) : sm (dg (lft p m v a)) 8 = sm (dg (lft p m v a)) a := by
  have h : ∀ k, a + k ≤ 8 → sm (dg (lft p m v a)) (a + k) = sm (dg (lft p m v a)) a := by
    intro k
    induction k with
    | zero => intro _; rfl
    | succ k ih =>
      intro hk
      show sm (dg (lft p m v a)) (a + k) + dg (lft p m v a) (a + k) = _
      rw [ih (by omega)]
      have : dg (lft p m v a) (a + k) = 0 := by unfold dg lft rowsTo; rw [if_neg (by omega)]
      rw [this, Int.add_zero]
  have := h (8 - a) (by omega)
  rwa [show a + (8 - a) = 8 by omega] at this

end Go.V

namespace Go.Proofs.YtgnphaopeplfbaaGreatDoor

open Go.V

variable [BW]

set_option linter.unusedSimpArgs false

set_option linter.unusedVariables false

set_option maxHeartbeats 4000000

/-- (*impl.Algebra).leftTable -/
def ir32 : Cd := (.seq (.reg [⟨some 3,none,.box 25 (.t 1)⟩,⟨some 4,none,.new 27 [(64,(.int .u8 0))]⟩]) (.seq (.reg [⟨some 7,none,.build 64 [(64,(.int .u8 0))] []⟩,⟨some 5,none,.new 27 [(64,(.int .u8 0))]⟩,⟨none,none,.st 64 (.t 5) (.t 7)⟩]) (.seq (.seq (.reg [⟨some 8,none,.mov (.t 0)⟩,⟨some 9,none,.ck (.t 8)⟩,⟨some 10,none,.fa 1 (.t 9)⟩,⟨some 11,none,.ld none (.t 10)⟩,⟨some 12,none,.mov (.c (.int .i64 0))⟩]) (.block 0 (.loop (.seq (.reg [⟨some 13,none,.bin .lss (.t 12) (.t 11)⟩]) (.seq (.cond (.t 13) .skip (.exit 0)) (.seq (.block 1 (.seq (.reg [⟨some 14,none,.mov (.t 12)⟩,⟨some 6,none,.mov (.t 14)⟩]) (.drwo true [7] [0,1,2,3,4,5,6,7] [⟨some 15,none,.mov (.t 6)⟩,⟨some 16,none,.mov (.t 0)⟩,⟨some 17,none,.ld (some 8) (.t 3)⟩,⟨some 18,none,.mov (.t 6)⟩,⟨some 19,none,.call 40 [(.t 18)]⟩,⟨some 20,none,.call 30 [(.t 16),(.t 17),(.t 19)]⟩,⟨some 21,none,.ia 8 8 (.t 5) (.t 15)⟩,⟨none,none,.st 8 (.t 21) (.t 20)⟩]))) (.reg [⟨some 22,none,.bin .add (.t 12) (.c (.int .i64 1))⟩,⟨some 12,none,.mov (.t 22)⟩]))))))) (.seq (.reg [⟨some 23,none,.ld (some 64) (.t 5)⟩,⟨none,none,.st 64 (.t 4) (.t 23)⟩]) .ret))))

set_option maxRecDepth 100000 in
theorem tr32 : trFn Tryz.prog Tryz.f32 = some (24, ir32, [.cell (some 64) 4]) := by kernel_rfl

theorem Algebra_leftTable (p : Int) (a : Nat) (m v : Nat → Int) (b : Nat) (K : Blk) (H : Hp) (n : Nat) (hp : 2 ≤ p ∧ p ≤ 31) (ha : a ≤ 8) (hb : H.get b = some K) (hsz : K.size = 522) (h0 : K.c 0 = .int .i64 p) (h1 : K.c 1 = .int .i64 a)
    (hK : ∀ q, q < 512 → K.c (10 + q) = .int .u8 (m q)) (hm : isBy 512 m) (hv : isBy 8 v) :
    FnS Tryz.prog 32 [ptr b 0, .arr 8 (bys v)] H n (fun r H' _ => r = .arr 64 (bys (lft p m v a)) ∧ H' = H) := by
  have h1' : K.c (0 + 1) = .int .i64 a := h1
  refine FnS.of_body Tryz.func32 tr32 (by simp) (fun hf => ?_)
  dsimp only [argEnv]
  unfold ir32
  have hbn := getlt hf hb
  (repeat first|refine zG ?_|(refine LS.nilO ?_;intro nq hnq hltq;try refine zU ?_)|(refine MS.new ?_;intro bq hbq hbqf;try refine zU ?_)|(refine MS.nil ?_;intro nq hnq hltq;have hlq:=hltq _ _ (Hp.get_eq _ _ _);clear hltq;try refine zU ?_)|(refine LS.nilQ ?_;try with_reducible intro nq hnq;try refine zU ?_))
  refine CS.iter a (fun i => [(12, i64 i), (11, i64 (a : Nat)), (0, ptr b 0), (3, ptr n 0), (4, ptr (n + 1) 0), (5, ptr (n + 2) 0)])
    (fun i => (n + 2, ⟨64, bys (rowsTo (fun _ => 0) (lfm p m v a) i), 27⟩) :: (n + 1, ⟨64, bys (fun _ => 0), 27⟩) :: (n, ⟨8, bys v, 25⟩) :: H) (fun _ => True) (by (repeat first | exact trivial | refine And.intro rfl ?_))
    (Drops.keepc rfl rfl (fun _ _ => by rw [rowsTo_zero]; rfl) (Drops.keepc rfl rfl (fun _ _ => rfl) (Drops.refl _ _))) trivial ?_
  intro i n2 hi hn _
  (repeat first|refine zG ?_|(refine LS.nilO ?_;intro nq hnq hltq;try refine zU ?_)|(refine MS.new ?_;intro bq hbq hbqf;try refine zU ?_)|(refine MS.nil ?_;intro nq hnq hltq;have hlq:=hltq _ _ (Hp.get_eq _ _ _);clear hltq;try refine zU ?_)|(refine LS.nilQ ?_;try with_reducible intro nq hnq;try refine zU ?_))
  refine zI ?_ ?_<;>intro h2
  · have hi' : i < a := by omega
    (repeat first|refine zG ?_|(refine LS.nilO ?_;intro nq hnq hltq;try refine zU ?_)|(refine MS.new ?_;intro bq hbq hbqf;try refine zU ?_)|(refine MS.nil ?_;intro nq hnq hltq;have hlq:=hltq _ _ (Hp.get_eq _ _ _);clear hltq;try refine zU ?_)|(refine LS.nilQ ?_;try with_reducible intro nq hnq;try refine zU ?_))
    refine CS.tailLo _ (List.Mem.head _) ?_; dsimp only [List.take, List.drop]
    (repeat first|refine zG ?_|(refine LS.nilO ?_;intro nq hnq hltq;try refine zU ?_)|(refine MS.new ?_;intro bq hbq hbqf;try refine zU ?_)|(refine MS.nil ?_;intro nq hnq hltq;have hlq:=hltq _ _ (Hp.get_eq _ _ _);clear hltq;try refine zU ?_)|(refine LS.nilQ ?_;try with_reducible intro nq hnq;try refine zU ?_))
    refine LS.callQ (.arr 8 (bys (bas i))) rfl (fun n' hn' => impl_basis i _ _ (by omega)) ?_
    (repeat first|refine zG ?_|(refine LS.nilO ?_;intro nq hnq hltq;try refine zU ?_)|(refine MS.new ?_;intro bq hbq hbqf;try refine zU ?_)|(refine MS.nil ?_;intro nq hnq hltq;have hlq:=hltq _ _ (Hp.get_eq _ _ _);clear hltq;try refine zU ?_)|(refine LS.nilQ ?_;try with_reducible intro nq hnq;try refine zU ?_))
    refine LS.callQ (.arr 8 (bys (pr p m v (bas i) a))) rfl (fun n' hn' => Algebra_product p a m v (bas i) b K _ _ hp ha (by exact zH) hsz h0 h1 hK hm hv (bas_by _ _)) ?_
    (repeat first|refine zG ?_|(refine LS.nilO ?_;intro nq hnq hltq;try refine zU ?_)|(refine MS.new ?_;intro bq hbq hbqf;try refine zU ?_)|(refine MS.nil ?_;intro nq hnq hltq;have hlq:=hltq _ _ (Hp.get_eq _ _ _);clear hltq;try refine zU ?_)|(refine LS.nilQ ?_;try with_reducible intro nq hnq;try refine zU ?_))
    exact ⟨by omega, by (repeat first | exact trivial | refine And.intro rfl ?_), Drops.keepc rfl rfl (fun q hq => rowsTo_step (fun y hy => lfm_at _ _ _ _ _ _ hy) q) (Drops.refl _ _), trivial⟩
  · obtain rfl : i = a := by omega
    (repeat first|refine zG ?_|(refine LS.nilO ?_;intro nq hnq hltq;try refine zU ?_)|(refine MS.new ?_;intro bq hbq hbqf;try refine zU ?_)|(refine MS.nil ?_;intro nq hnq hltq;have hlq:=hltq _ _ (Hp.get_eq _ _ _);clear hltq;try refine zU ?_)|(refine LS.nilQ ?_;try with_reducible intro nq hnq;try refine zU ?_))
    exact ⟨.arr 64 (bys (lft p m v i)), H, conc_arr (fun q hq => by first | rfl | (simp only [Nat.zero_add]; done) | (simp only [Nat.zero_add]; rfl)), by exact zD, rfl, rfl⟩

/-- spec.l01Trace -/
def ir52 : Cd := (.seq (.reg [⟨some 5,none,.box 27 (.t 2)⟩,⟨some 6,none,.mov (.c (.int .i64 0))⟩]) (.seq (.reg [⟨some 7,none,.mov (.c (.int .i64 0))⟩]) (.seq (.seq (.reg [⟨some 8,none,.mov (.c (.int .i64 0))⟩]) (.block 0 (.loop (.seq (.seq (.reg [⟨some 9,none,.mov (.t 8)⟩,⟨some 10,none,.mov (.t 1)⟩,⟨some 11,none,.bin .lss (.t 9) (.t 10)⟩]) (.cond (.t 11) .skip (.exit 0))) (.seq (.block 1 (.reg [⟨some 14,none,.mov (.t 7)⟩,⟨some 15,none,.mov (.t 8)⟩,⟨some 16,none,.mov (.t 8)⟩,⟨some 17,none,.ia 8 8 (.t 5) (.t 15)⟩,⟨some 18,none,.ia 8 1 (.t 17) (.t 16)⟩,⟨some 19,none,.ld none (.t 18)⟩,⟨some 20,none,.cv .i64 (.t 19)⟩,⟨some 21,none,.bin .add (.t 14) (.t 20)⟩,⟨some 7,none,.mov (.t 21)⟩])) (.reg [⟨some 12,none,.mov (.t 8)⟩,⟨some 13,none,.bin .add (.t 12) (.c (.int .i64 1))⟩,⟨some 8,none,.mov (.t 13)⟩])))))) (.seq (.reg [⟨some 22,none,.mov (.t 7)⟩,⟨some 23,none,.mov (.t 0)⟩,⟨some 24,none,.bin .rem (.t 22) (.t 23)⟩,⟨some 6,none,.mov (.t 24)⟩]) .ret))))

set_option maxRecDepth 100000 in
theorem tr52 : trFn Tryz.prog Tryz.f52 = some (25, ir52, [.tmp 6]) := by kernel_rfl

theorem spec_l01Trace (p : Int) (a : Nat) (g : Nat → Int) (H : Hp) (n : Nat) (hp : 2 ≤ p ∧ p ≤ 31) (ha : a ≤ 8) (hg : isBy 64 g) :
    FnS Tryz.prog 52 [i64 p, i64 a, .arr 64 (bys g)] H n (fun r H' _ => r = i64 (trcN p g a) ∧ H' = H) := by
  refine FnS.of_body Tryz.func52 tr52 (by simp) (fun hf => ?_)
  dsimp only [argEnv]
  unfold ir52
  (repeat first|refine zG ?_|(refine LS.nilO ?_;intro nq hnq hltq;try refine zU ?_)|(refine MS.new ?_;intro bq hbq hbqf;try refine zU ?_)|(refine MS.nil ?_;intro nq hnq hltq;have hlq:=hltq _ _ (Hp.get_eq _ _ _);clear hltq;try refine zU ?_)|(refine LS.nilQ ?_;try with_reducible intro nq hnq;try refine zU ?_))
  refine CS.iter a (fun i => [(8, i64 i), (0, i64 p), (1, i64 (a : Nat)), (5, ptr n 0), (7, i64 (sm (dg g) i))])
    (fun _ => (n, ⟨64, bys g, 27⟩) :: H) (fun i => 0 ≤ sm (dg g) i ∧ sm (dg g) i ≤ 255 * i) (by (repeat first | exact trivial | refine And.intro rfl ?_)) (Drops.refl _ _) ⟨Int.le_refl _, Int.le_refl _⟩ ?_
  intro i n2 hi hn hJ
  (repeat first|refine zG ?_|(refine LS.nilO ?_;intro nq hnq hltq;try refine zU ?_)|(refine MS.new ?_;intro bq hbq hbqf;try refine zU ?_)|(refine MS.nil ?_;intro nq hnq hltq;have hlq:=hltq _ _ (Hp.get_eq _ _ _);clear hltq;try refine zU ?_)|(refine LS.nilQ ?_;try with_reducible intro nq hnq;try refine zU ?_))
  refine zI ?_ ?_<;>intro h2
  · have hgi := hg (9 * i) (by omega)
    have hgc : (bys g) (0 + (8 * i + i)) = .int .u8 (dg g i) := by show SV.int IntKind.u8 (g (0 + (8 * i + i))) = _; unfold dg; rw [show 0 + (8 * i + i) = 9 * i by omega]
    have hgc' : (bys g) (8 * i + i) = .int .u8 (dg g i) := by show SV.int IntKind.u8 (g (8 * i + i)) = _; unfold dg; rw [show 8 * i + i = 9 * i by omega]
    have hd : 0 ≤ dg g i ∧ dg g i ≤ 255 := hgi
    (repeat first|refine zG ?_|(refine LS.nilO ?_;intro nq hnq hltq;try refine zU ?_)|(refine MS.new ?_;intro bq hbq hbqf;try refine zU ?_)|(refine MS.nil ?_;intro nq hnq hltq;have hlq:=hltq _ _ (Hp.get_eq _ _ _);clear hltq;try refine zU ?_)|(refine LS.nilQ ?_;try with_reducible intro nq hnq;try refine zU ?_))
    refine ⟨by omega, by (repeat first | exact trivial | refine And.intro rfl ?_), Drops.refl _ _, ?_⟩
    have e : sm (dg g) (i + 1) = sm (dg g) i + dg g i := rfl
    rw [e]
    omega
  · obtain rfl : i = a := by omega
    (repeat first|refine zG ?_|(refine LS.nilO ?_;intro nq hnq hltq;try refine zU ?_)|(refine MS.new ?_;intro bq hbq hbqf;try refine zU ?_)|(refine MS.nil ?_;intro nq hnq hltq;have hlq:=hltq _ _ (Hp.get_eq _ _ _);clear hltq;try refine zU ?_)|(refine LS.nilQ ?_;try with_reducible intro nq hnq;try refine zU ?_))
    exact ⟨_, H, rfl, by exact zD, rfl, rfl⟩

/-- (impl.field).trace -/
def ir54 : Cd := (.seq (.reg [⟨some 2,none,.box 92 (.t 0)⟩,⟨some 3,none,.box 27 (.t 1)⟩,⟨some 4,none,.mov (.c (.int .i64 0))⟩]) (.seq (.reg [⟨some 5,none,.mov (.c (.int .i64 0))⟩]) (.seq (.seq (.reg [⟨some 7,none,.mov (.c (.int .i64 0))⟩]) (.block 0 (.loop (.seq (.reg [⟨some 8,none,.bin .lss (.t 7) (.c (.int .i64 8))⟩]) (.seq (.cond (.t 8) .skip (.exit 0)) (.seq (.block 1 (.seq (.reg [⟨some 9,none,.mov (.t 7)⟩,⟨some 6,none,.mov (.t 9)⟩]) (.reg [⟨some 10,none,.mov (.t 5)⟩,⟨some 11,none,.mov (.t 6)⟩,⟨some 12,none,.mov (.t 6)⟩,⟨some 13,none,.ia 8 8 (.t 3) (.t 11)⟩,⟨some 14,none,.ia 8 1 (.t 13) (.t 12)⟩,⟨some 15,none,.ld none (.t 14)⟩,⟨some 16,none,.cv .i64 (.t 15)⟩,⟨some 17,none,.bin .add (.t 10) (.t 16)⟩,⟨some 5,none,.mov (.t 17)⟩]))) (.reg [⟨some 18,none,.bin .add (.t 7) (.c (.int .i64 1))⟩,⟨some 7,none,.mov (.t 18)⟩]))))))) (.seq (.reg [⟨some 19,none,.mov (.t 5)⟩,⟨some 20,none,.fa 0 (.t 2)⟩,⟨some 21,none,.ld none (.t 20)⟩,⟨some 22,none,.bin .rem (.t 19) (.t 21)⟩,⟨some 4,none,.mov (.t 22)⟩]) .ret))))

set_option maxRecDepth 100000 in
theorem tr54 : trFn Tryz.prog Tryz.f54 = some (23, ir54, [.tmp 4]) := by kernel_rfl

theorem field_trace (p n' : Int) (g : Nat → Int) (H : Hp) (n : Nat) (hp : 2 ≤ p ∧ p ≤ 31) (hg : isBy 64 g) :
    FnS Tryz.prog 54 [fld p n', .arr 64 (bys g)] H n (fun r H' _ => r = i64 (trcN p g 8) ∧ H' = H) := by
  refine FnS.of_body Tryz.func54 tr54 (by simp) (fun hf => ?_)
  dsimp only [argEnv]
  unfold ir54
  (repeat first|refine zG ?_|(refine LS.nilO ?_;intro nq hnq hltq;try refine zU ?_)|(refine MS.new ?_;intro bq hbq hbqf;try refine zU ?_)|(refine MS.nil ?_;intro nq hnq hltq;have hlq:=hltq _ _ (Hp.get_eq _ _ _);clear hltq;try refine zU ?_)|(refine LS.nilQ ?_;try with_reducible intro nq hnq;try refine zU ?_))
  refine CS.iter 8 (fun i => [(7, i64 i), (2, ptr n 0), (3, ptr (n + 1) 0), (5, i64 (sm (dg g) i))])
    (fun _ => (n + 1, ⟨64, bys g, 27⟩) :: (n, ⟨2, fldC p n', 92⟩) :: H) (fun i => 0 ≤ sm (dg g) i ∧ sm (dg g) i ≤ 255 * i) (by (repeat first | exact trivial | refine And.intro rfl ?_)) (Drops.refl _ _) ⟨Int.le_refl _, Int.le_refl _⟩ ?_
  intro i n2 hi hn hJ
  (repeat first|refine zG ?_|(refine LS.nilO ?_;intro nq hnq hltq;try refine zU ?_)|(refine MS.new ?_;intro bq hbq hbqf;try refine zU ?_)|(refine MS.nil ?_;intro nq hnq hltq;have hlq:=hltq _ _ (Hp.get_eq _ _ _);clear hltq;try refine zU ?_)|(refine LS.nilQ ?_;try with_reducible intro nq hnq;try refine zU ?_))
  refine zI ?_ ?_<;>intro h2
  · have hgi := hg (9 * i) (by omega)
    have hgc' : (bys g) (8 * i + i) = .int .u8 (dg g i) := by show SV.int IntKind.u8 (g (8 * i + i)) = _; unfold dg; rw [show 8 * i + i = 9 * i by omega]
    have hd : 0 ≤ dg g i ∧ dg g i ≤ 255 := hgi
    (repeat first|refine zG ?_|(refine LS.nilO ?_;intro nq hnq hltq;try refine zU ?_)|(refine MS.new ?_;intro bq hbq hbqf;try refine zU ?_)|(refine MS.nil ?_;intro nq hnq hltq;have hlq:=hltq _ _ (Hp.get_eq _ _ _);clear hltq;try refine zU ?_)|(refine LS.nilQ ?_;try with_reducible intro nq hnq;try refine zU ?_))
    refine ⟨by omega, by (repeat first | exact trivial | refine And.intro rfl ?_), Drops.refl _ _, ?_⟩
    have e : sm (dg g) (i + 1) = sm (dg g) i + dg g i := rfl
    rw [e]
    omega
  · obtain rfl : i = 8 := by omega
    (repeat first|refine zG ?_|(refine LS.nilO ?_;intro nq hnq hltq;try refine zU ?_)|(refine MS.new ?_;intro bq hbq hbqf;try refine zU ?_)|(refine MS.nil ?_;intro nq hnq hltq;have hlq:=hltq _ _ (Hp.get_eq _ _ _);clear hltq;try refine zU ?_)|(refine LS.nilQ ?_;try with_reducible intro nq hnq;try refine zU ?_))
    exact ⟨_, H, rfl, by exact zD, rfl, rfl⟩

end Go.Proofs.YtgnphaopeplfbaaGreatDoor
