/- Numbers that follow from a code. -/
import Derived.Test.YtgnphaopeplfbaaGreatDoorJar
import Derived.Test.YtgnphaopeplfbaaGreatDoorJam
set_option linter.unusedSectionVars false
set_option linter.unusedVariables false
set_option linter.unusedSimpArgs false

namespace Go.V

variable [BW]

set_option linter.unusedSimpArgs false

set_option linter.unusedVariables false

/-- A source of numbers: a code, a place in it, a hash. -/
def SRQ (H : Hp) (b : Nat) (t : TypeId) (sv : SV) (len : Nat) : Prop :=
  ∃ K, H.get b = some K ∧ K.size = 3 ∧ K.ty = t ∧ K.c 0 = sv ∧ (∃ j : Nat, K.c 1 = .int .i64 j ∧ j ≤ len) ∧ ∃ h, K.c 2 = .int .u64 h

theorem SRQ.keep {H H' : Hp} {b : Nat} {t : TypeId} {sv : SV} {len : Nat} (h : SRQ H b t sv len) (hg : H'.get b = H.get b) : SRQ H' b t sv len := by
  obtain ⟨K, g, q⟩ := h
  exact ⟨K, by rw [hg]; exact g, q⟩

section

variable {P : Program} {N m : Nat} {e : Env} {H : Hp} {n : Nat} {l : List Ins} {d : Option Nat} {D : Md}

theorem RS.lenR1 {x : X} {m' z : Nat} {sv : SV} {len : Nat} {f : Nat → Int} [BW] (hx : x.ev e = some (.s sv)) (hR : RA m' z sv len f) (h : LS P N m D l (putD d (.s (.int .i64 (len : Nat))) e) H n) : LS P N m D (⟨d, none, .len x⟩ :: l) e H n := by
  rcases hR with ⟨rfl, rfl⟩ | ⟨b, o, cap, rfl, _⟩
  · exact RS.len0 hx h
  · exact RS.len hx h

theorem RS.mmx {x y : X} {k k2 : IntKind} {a b : Int} (hx : x.ev e = some (.s (.int k a))) (hy : y.ev e = some (.s (.int k2 b))) (h : ∀ c : Int, (c = a ∨ c = b) → a ≤ c → b ≤ c → LS P N m D l (putD d (.s (.int k c)) e) H n) : LS P N m D (⟨d, none, .mm true x y⟩ :: l) e H n := by
  refine RS.mm hx hy (h _ ?_ ?_ ?_) <;> (simp only [if_true]; split <;> omega)

theorem RS.mmn {x y : X} {k k2 : IntKind} {a b : Int} (hx : x.ev e = some (.s (.int k a))) (hy : y.ev e = some (.s (.int k2 b))) (h : ∀ c : Int, (c = a ∨ c = b) → c ≤ a → c ≤ b → LS P N m D l (putD d (.s (.int k c)) e) H n) : LS P N m D (⟨d, none, .mm false x y⟩ :: l) e H n := by
  refine RS.mm hx hy (h _ ?_ ?_ ?_) <;> (simp only [Bool.false_eq_true, if_false]; split <;> omega)

theorem RS.mulw {x y : X} {k : IntKind} {a b : Int} (hx : x.ev e = some (.s (.int k a))) (hy : y.ev e = some (.s (.int k b))) (h : LS P N m D l (putD d (.s (.int k (k.wrap (a * b)))) e) H n) : LS P N m D (⟨d, none, .bin .mul x y⟩ :: l) e H n :=
  RS.bin hx hy ⟨rfl, h⟩

theorem RS.addw {x y : X} {k : IntKind} {a b : Int} (hx : x.ev e = some (.s (.int k a))) (hy : y.ev e = some (.s (.int k b))) (h : LS P N m D l (putD d (.s (.int k (k.wrap (a + b)))) e) H n) : LS P N m D (⟨d, none, .bin .add x y⟩ :: l) e H n :=
  RS.bin hx hy ⟨rfl, h⟩

theorem RS.andw {x y : X} {k : IntKind} {a b : Int} (hx : x.ev e = some (.s (.int k a))) (hy : y.ev e = some (.s (.int k b))) (h : LS P N m D l (putD d (.s (.int k (k.wrap (BitVec.ofInt k.bits a &&& BitVec.ofInt k.bits b).toNat))) e) H n) : LS P N m D (⟨d, none, .bin .and x y⟩ :: l) e H n :=
  RS.bin hx hy ⟨rfl, h⟩

theorem RS.shrw {x y : X} {k k' : IntKind} {a b : Int} (hx : x.ev e = some (.s (.int k a))) (hy : y.ev e = some (.s (.int k' b))) (hb : 0 ≤ b) (h : ∀ c, LS P N m D l (putD d (.s (.int k c)) e) H n) : LS P N m D (⟨d, none, .bin .shr x y⟩ :: l) e H n :=
  RS.bin hx hy ⟨hb, h _⟩

end

theorem and24 (x : BitVec 64) : (x &&& BitVec.ofInt 64 16777215).toNat ≤ 16777215 := by
  rw [BitVec.toNat_and]
  exact Nat.le_trans Nat.and_le_right (by decide)

theorem wrap24 (a : Int) : ∃ x : Nat, x ≤ 16777215 ∧ IntKind.u64.wrap ((BitVec.ofInt IntKind.u64.bits a &&& BitVec.ofInt IntKind.u64.bits 16777215).toNat : Int) = x := by
  refine ⟨_, and24 (BitVec.ofInt 64 a), ?_⟩
  have h := and24 (BitVec.ofInt 64 a)
  show IntKind.u64.wrap ((BitVec.ofInt 64 a &&& BitVec.ofInt 64 16777215).toNat : Int) = _
  generalize (BitVec.ofInt 64 a &&& BitVec.ofInt 64 16777215).toNat = y at h ⊢
  exact IntWalk.u64_in _ ⟨by omega, by omega⟩

end Go.V

namespace Go.Proofs.YtgnphaopeplfbaaGreatDoor

open Go.V

variable [BW]

set_option linter.unusedSimpArgs false

set_option linter.unusedVariables false

set_option maxHeartbeats 4000000

/-- spec.l01Next -/
def ir45 : Cd := (.seq (.reg [⟨some 4,none,.mov (.c (.int .i64 0))⟩]) (.seq (.seq (.reg [⟨some 6,none,.mov (.t 1)⟩,⟨some 7,none,.bin .lss (.t 6) (.c (.int .i64 1))⟩]) (.cond (.t 7) (.seq (.reg [⟨some 4,none,.mov (.c (.int .i64 0))⟩]) .ret) .skip)) (.seq (.reg [⟨some 8,none,.mov (.t 0)⟩,⟨some 9,none,.mov (.t 0)⟩,⟨some 10,none,.ck (.t 9)⟩,⟨some 11,none,.fa 2 (.t 10)⟩,⟨some 12,none,.ld none (.t 11)⟩,⟨some 13,none,.bin .mul (.t 12) (.c (.int .u64 6364136223846793005))⟩,⟨some 14,none,.bin .add (.t 13) (.c (.int .u64 1442695040888963407))⟩,⟨some 15,none,.ck (.t 8)⟩,⟨some 16,none,.fa 2 (.t 15)⟩,⟨none,none,.st 1 (.t 16) (.t 14)⟩]) (.seq (.reg [⟨some 17,none,.mov (.t 0)⟩,⟨some 18,none,.ck (.t 17)⟩,⟨some 19,none,.fa 2 (.t 18)⟩,⟨some 20,none,.ld none (.t 19)⟩,⟨some 21,none,.bin .shr (.t 20) (.c (.int .u64 33))⟩,⟨some 22,none,.bin .and (.t 21) (.c (.int .u64 16777215))⟩,⟨some 23,none,.cv .i64 (.t 22)⟩,⟨some 5,none,.mov (.t 23)⟩]) (.seq (.seq (.drw true [] [⟨some 24,none,.mov (.t 0)⟩,⟨some 25,none,.ck (.t 24)⟩,⟨some 26,none,.fa 1 (.t 25)⟩,⟨some 27,none,.ld none (.t 26)⟩,⟨some 28,none,.mov (.t 0)⟩,⟨some 29,none,.ck (.t 28)⟩,⟨some 30,none,.fa 0 (.t 29)⟩,⟨some 31,none,.ld none (.t 30)⟩,⟨some 32,none,.len (.t 31)⟩,⟨some 33,none,.bin .lss (.t 27) (.t 32)⟩]) (.cond (.t 33) (.seq (.drw true [] [⟨some 34,none,.mov (.t 5)⟩,⟨some 35,none,.mov (.t 0)⟩,⟨some 36,none,.ck (.t 35)⟩,⟨some 37,none,.fa 0 (.t 36)⟩,⟨some 38,none,.ld none (.t 37)⟩,⟨some 39,none,.mov (.t 0)⟩,⟨some 40,none,.ck (.t 39)⟩,⟨some 41,none,.fa 1 (.t 40)⟩,⟨some 42,none,.ld none (.t 41)⟩,⟨some 43,none,.isl 1 (.t 38) (.t 42)⟩,⟨some 44,none,.ld none (.t 43)⟩,⟨some 45,none,.cv .i64 (.t 44)⟩,⟨some 46,none,.bin .add (.t 34) (.t 45)⟩,⟨some 5,none,.mov (.t 46)⟩]) (.reg [⟨some 47,none,.mov (.t 0)⟩,⟨some 48,none,.mov (.t 0)⟩,⟨some 49,none,.ck (.t 48)⟩,⟨some 50,none,.fa 1 (.t 49)⟩,⟨some 51,none,.ld none (.t 50)⟩,⟨some 52,none,.bin .add (.t 51) (.c (.int .i64 1))⟩,⟨some 53,none,.ck (.t 47)⟩,⟨some 54,none,.fa 1 (.t 53)⟩,⟨none,none,.st 1 (.t 54) (.t 52)⟩])) .skip)) (.seq (.reg [⟨some 55,none,.mov (.t 5)⟩,⟨some 56,none,.mov (.t 1)⟩,⟨some 57,none,.bin .rem (.t 55) (.t 56)⟩,⟨some 4,none,.mov (.t 57)⟩]) .ret))))))

set_option maxRecDepth 100000 in
theorem tr45 : trFn Tryz.prog Tryz.f45 = some (58, ir45, [.tmp 4]) := by kernel_rfl

theorem spec_l01Next (m0 : Nat) (sv : SV) (len : Nat) (f : Nat → Int) (b : Nat) (t : TypeId) (k : Int) (H : Hp) (n : Nat) (hR : RA m0 1 sv len f) (hfb : ∀ i, i < 1 * len → 0 ≤ f i ∧ f i ≤ 255) (hlen : len ≤ 4096) (hm : ∀ x, x < m0 → H.get x = none) (hbm : m0 ≤ b) (hS : SRQ H b t sv len) :
    FnS Tryz.prog 45 [ptr b 0, i64 k] H n (fun r H' _ => ∃ x : Int, r = i64 x ∧ 0 ≤ x ∧ (1 ≤ k → x < k) ∧ (k < 1 → x = 0) ∧ SRQ H' b t sv len ∧ ∀ y, y ≠ b → H'.get y = H.get y) := by
  obtain ⟨K, gS, sS, tS, c0, ⟨j, c1, hj⟩, hh, c2⟩ := id hS
  have c1' : K.c (0 + 1) = .int .i64 (j : Nat) := c1
  have c2' : K.c (0 + 2) = .int .u64 hh := c2
  refine FnS.of_body Tryz.func45 tr45 (by simp) (fun hf => ?_)
  dsimp only [argEnv]
  unfold ir45
  have hbn := getlt hf gS
  (repeat first|refine zG ?_|(refine LS.nilO ?_;intro nq hnq hltq;try refine zU ?_)|(refine MS.new ?_;intro bq hbq hbqf;try refine zU ?_)|(refine MS.nil ?_;intro nq hnq hltq;have hlq:=hltq _ _ (Hp.get_eq _ _ _);clear hltq;try refine zU ?_)|(refine LS.nilQ ?_;try with_reducible intro nq hnq;try refine zU ?_))
  refine zI ?_ ?_<;>intro h1
  · (repeat first|refine zG ?_|(refine LS.nilO ?_;intro nq hnq hltq;try refine zU ?_)|(refine MS.new ?_;intro bq hbq hbqf;try refine zU ?_)|(refine MS.nil ?_;intro nq hnq hltq;have hlq:=hltq _ _ (Hp.get_eq _ _ _);clear hltq;try refine zU ?_)|(refine LS.nilQ ?_;try with_reducible intro nq hnq;try refine zU ?_))
    exact ⟨_, H, rfl, by exact zD, 0, rfl, by omega, fun q => by omega, fun _ => rfl, hS, fun y _ => rfl⟩
  (repeat first|refine zG ?_|(refine LS.nilO ?_;intro nq hnq hltq;try refine zU ?_)|(refine MS.new ?_;intro bq hbq hbqf;try refine zU ?_)|(refine MS.nil ?_;intro nq hnq hltq;have hlq:=hltq _ _ (Hp.get_eq _ _ _);clear hltq;try refine zU ?_)|(refine LS.nilQ ?_;try with_reducible intro nq hnq;try refine zU ?_))
  refine RS.mulw (by exact rfl) (by exact rfl) ?_
  (repeat first|refine zG ?_|(refine LS.nilO ?_;intro nq hnq hltq;try refine zU ?_)|(refine MS.new ?_;intro bq hbq hbqf;try refine zU ?_)|(refine MS.nil ?_;intro nq hnq hltq;have hlq:=hltq _ _ (Hp.get_eq _ _ _);clear hltq;try refine zU ?_)|(refine LS.nilQ ?_;try with_reducible intro nq hnq;try refine zU ?_))
  refine RS.addw (by exact rfl) (by exact rfl) ?_
  generalize IntKind.u64.wrap (IntKind.u64.wrap (hh * 6364136223846793005) + 1442695040888963407) = hash
  (repeat first|refine zG ?_|(refine LS.nilO ?_;intro nq hnq hltq;try refine zU ?_)|(refine MS.new ?_;intro bq hbq hbqf;try refine zU ?_)|(refine MS.nil ?_;intro nq hnq hltq;have hlq:=hltq _ _ (Hp.get_eq _ _ _);clear hltq;try refine zU ?_)|(refine LS.nilQ ?_;try with_reducible intro nq hnq;try refine zU ?_))
  refine RS.shrw (by exact rfl) (by exact rfl) (by omega) (fun hs => ?_)
  (repeat first|refine zG ?_|(refine LS.nilO ?_;intro nq hnq hltq;try refine zU ?_)|(refine MS.new ?_;intro bq hbq hbqf;try refine zU ?_)|(refine MS.nil ?_;intro nq hnq hltq;have hlq:=hltq _ _ (Hp.get_eq _ _ _);clear hltq;try refine zU ?_)|(refine LS.nilQ ?_;try with_reducible intro nq hnq;try refine zU ?_))
  refine RS.andw (by exact rfl) (by exact rfl) ?_
  obtain ⟨x, hx, ex⟩ := wrap24 hs
  rw [ex]
  (repeat first|refine zG ?_|(refine LS.nilO ?_;intro nq hnq hltq;try refine zU ?_)|(refine MS.new ?_;intro bq hbq hbqf;try refine zU ?_)|(refine MS.nil ?_;intro nq hnq hltq;have hlq:=hltq _ _ (Hp.get_eq _ _ _);clear hltq;try refine zU ?_)|(refine LS.nilQ ?_;try with_reducible intro nq hnq;try refine zU ?_))
  refine RS.lenR1 (by exact rfl) hR ?_
  (repeat first|refine zG ?_|(refine LS.nilO ?_;intro nq hnq hltq;try refine zU ?_)|(refine MS.new ?_;intro bq hbq hbqf;try refine zU ?_)|(refine MS.nil ?_;intro nq hnq hltq;have hlq:=hltq _ _ (Hp.get_eq _ _ _);clear hltq;try refine zU ?_)|(refine LS.nilQ ?_;try with_reducible intro nq hnq;try refine zU ?_))
  have gS1 : (H.set b (put1 K.c 2 (SV.int .u64 hash))).get b = some ⟨K.size, put1 K.c 2 (SV.int .u64 hash), K.ty⟩ := Hp.get_set_self _ gS
  have lo1 : ∀ y, y ≠ b → (H.set b (put1 K.c 2 (SV.int .u64 hash))).get y = H.get y := fun y hy => Hp.get_set_other _ (fun q => hy q.symm)
  generalize H.set b (put1 K.c 2 (SV.int .u64 hash)) = H1 at *
  refine zI ?_ ?_<;>intro h2
  · have hj' : j < len := by omega
    obtain ⟨cb, co, cap, rfl, hcap, hcb, hcell⟩ : ∃ cb co cap, sv = .slc cb co len cap ∧ len ≤ cap ∧ cb < m0 ∧ ∀ i, i < 1 * len → BW.cell cb (co + i) = some (.int .u8 (f i)) := by
      rcases hR with ⟨_, q⟩ | ⟨b, o, cap, q⟩
      · omega
      · exact ⟨b, o, cap, q⟩
    have hfj := hfb (j * 1) (by omega)
    (repeat first|refine zG ?_|(refine LS.nilO ?_;intro nq hnq hltq;try refine zU ?_)|(refine MS.new ?_;intro bq hbq hbqf;try refine zU ?_)|(refine MS.nil ?_;intro nq hnq hltq;have hlq:=hltq _ _ (Hp.get_eq _ _ _);clear hltq;try refine zU ?_)|(refine LS.nilQ ?_;try with_reducible intro nq hnq;try refine zU ?_))
    refine RS.rd1 (q := j * 1) (z' := 1 * len) (f := f) (by exact rfl) (by rw [lo1 _ (by omega)]; exact hm _ hcb) hcell (by omega) ?_
    (repeat first|refine zG ?_|(refine LS.nilO ?_;intro nq hnq hltq;try refine zU ?_)|(refine MS.new ?_;intro bq hbq hbqf;try refine zU ?_)|(refine MS.nil ?_;intro nq hnq hltq;have hlq:=hltq _ _ (Hp.get_eq _ _ _);clear hltq;try refine zU ?_)|(refine LS.nilQ ?_;try with_reducible intro nq hnq;try refine zU ?_))
    have hx0 : 0 ≤ (x : Int) + f (j * 1) := by omega
    exact ⟨i64 (((x : Int) + f (j * 1)) % k), _, rfl, Drops.refl _ _, _, rfl, Int.emod_nonneg _ (by omega), fun _ => Int.emod_lt_of_pos _ (by omega), fun q => by omega, ⟨_, Hp.get_set_self _ gS1, sS, tS, c0, ⟨j + 1, by (try dsimp only); first | rfl | exact congrArg (SV.int .i64) (by omega), by omega⟩, _, rfl⟩, fun y hy => by rw [Hp.get_set_other _ (fun q => hy q.symm)]; exact lo1 y hy⟩
  · (repeat first|refine zG ?_|(refine LS.nilO ?_;intro nq hnq hltq;try refine zU ?_)|(refine MS.new ?_;intro bq hbq hbqf;try refine zU ?_)|(refine MS.nil ?_;intro nq hnq hltq;have hlq:=hltq _ _ (Hp.get_eq _ _ _);clear hltq;try refine zU ?_)|(refine LS.nilQ ?_;try with_reducible intro nq hnq;try refine zU ?_))
    exact ⟨i64 ((x : Int) % k), H1, rfl, Drops.refl _ _, _, rfl, Int.emod_nonneg _ (by omega), fun _ => Int.emod_lt_of_pos _ (by omega), fun q => by omega, ⟨_, gS1, sS, tS, c0, ⟨j, c1, hj⟩, _, rfl⟩, lo1⟩

/-- spec.l01Pick -/
def ir44 : Cd := (.seq (.reg [⟨some 4,none,.mov (.c (.int .i64 0))⟩]) (.seq (.reg [⟨some 5,none,.mov (.t 1)⟩,⟨some 6,none,.mov (.t 0)⟩,⟨some 7,none,.mov (.t 1)⟩,⟨some 8,none,.len (.t 7)⟩,⟨some 9,none,.call 45 [(.t 6),(.t 8)]⟩,⟨some 10,none,.isl 1 (.t 5) (.t 9)⟩,⟨some 11,none,.ld none (.t 10)⟩,⟨some 4,none,.mov (.t 11)⟩]) .ret))

set_option maxRecDepth 100000 in
theorem tr44 : trFn Tryz.prog Tryz.f44 = some (12, ir44, [.tmp 4]) := by kernel_rfl

theorem spec_l01Pick (m0 : Nat) (sv : SV) (len : Nat) (f : Nat → Int) (b : Nat) (t : TypeId) (g : Nat → Int) (cnt lb : Nat) (Kl : Blk) (H : Hp) (n : Nat) (hR : RA m0 1 sv len f) (hfb : ∀ i, i < 1 * len → 0 ≤ f i ∧ f i ≤ 255) (hlen : len ≤ 4096) (hm : ∀ x, x < m0 → H.get x = none) (hbm : m0 ≤ b) (hS : SRQ H b t sv len) (hc : 1 ≤ cnt) (hc9 : cnt ≤ 100) (hlb : lb ≠ b) (gl : H.get lb = some Kl) (sl : cnt ≤ Kl.size) (cl : ∀ i, i < cnt → Kl.c i = .int .i64 (g i)) :
    FnS Tryz.prog 44 [ptr b 0, .s (.slc lb 0 cnt cnt)] H n (fun r H' _ => ∃ i, i < cnt ∧ r = i64 (g i) ∧ SRQ H' b t sv len ∧ ∀ y, y ≠ b → H'.get y = H.get y) := by
  refine FnS.of_body Tryz.func44 tr44 (by simp) (fun hf => ?_)
  dsimp only [argEnv]
  unfold ir44
  have hbl := getlt hf gl
  (repeat first|refine zG ?_|(refine LS.nilO ?_;intro nq hnq hltq;try refine zU ?_)|(refine MS.new ?_;intro bq hbq hbqf;try refine zU ?_)|(refine MS.nil ?_;intro nq hnq hltq;have hlq:=hltq _ _ (Hp.get_eq _ _ _);clear hltq;try refine zU ?_)|(refine LS.nilQ ?_;try with_reducible intro nq hnq;try refine zU ?_))
  refine RS.call rfl ((spec_l01Next m0 sv len f b t (cnt : Nat) _ _ hR hfb hlen hm hbm hS).mono ?_)
  rintro r H2 n2 hn2 ⟨x, rfl, hx0, hx1, -, hS2, lo2⟩
  obtain ⟨i, rfl⟩ := Int.eq_ofNat_of_zero_le hx0
  have hi : i < cnt := by have := hx1 (by omega); omega
  have gl2 : H2.get lb = some Kl := by rw [lo2 lb hlb]; exact gl
  have cl2 : Kl.c (0 + i * 1) = .int .i64 (g i) := by rw [show 0 + i * 1 = i by omega]; exact cl i hi
  (repeat first|refine zG ?_|(refine LS.nilO ?_;intro nq hnq hltq;try refine zU ?_)|(refine MS.new ?_;intro bq hbq hbqf;try refine zU ?_)|(refine MS.nil ?_;intro nq hnq hltq;have hlq:=hltq _ _ (Hp.get_eq _ _ _);clear hltq;try refine zU ?_)|(refine LS.nilQ ?_;try with_reducible intro nq hnq;try refine zU ?_))
  exact ⟨_, H2, rfl, Drops.refl _ _, i, hi, rfl, hS2, lo2⟩

/-- spec.l01DrawPrime -/
def ir81 : Cd := (.seq (.reg [⟨some 2,none,.mov (.c (.int .i64 0))⟩]) (.seq (.reg [⟨some 3,none,.mov (.t 0)⟩,⟨some 4,none,.bsl 2 9 1 [(1,(.int .i64 0))] [(0,1,(.c (.int .i64 2))),(1,1,(.c (.int .i64 2))),(2,1,(.c (.int .i64 3))),(3,1,(.c (.int .i64 3))),(4,1,(.c (.int .i64 5))),(5,1,(.c (.int .i64 5))),(6,1,(.c (.int .i64 7))),(7,1,(.c (.int .i64 11))),(8,1,(.c (.int .i64 31)))]⟩,⟨some 5,none,.call 44 [(.t 3),(.t 4)]⟩,⟨some 2,none,.mov (.t 5)⟩]) .ret))

set_option maxRecDepth 100000 in
theorem tr81 : trFn Tryz.prog Tryz.f81 = some (6, ir81, [.tmp 2]) := by kernel_rfl

theorem spec_l01DrawPrime (m0 : Nat) (sv : SV) (len : Nat) (f : Nat → Int) (b : Nat) (t : TypeId) (H : Hp) (n : Nat) (hR : RA m0 1 sv len f) (hfb : ∀ i, i < 1 * len → 0 ≤ f i ∧ f i ≤ 255) (hlen : len ≤ 4096) (hm : ∀ x, x < m0 → H.get x = none) (hbm : m0 ≤ b) (hS : SRQ H b t sv len) :
    FnS Tryz.prog 81 [ptr b 0] H n (fun r H' _ => ∃ p : Int, r = i64 p ∧ 2 ≤ p ∧ p ≤ 31 ∧ SRQ H' b t sv len ∧ ∀ y, y < n → y ≠ b → H'.get y = H.get y) := by
  refine FnS.of_body Tryz.func81 tr81 (by simp) (fun hf => ?_)
  dsimp only [argEnv]
  unfold ir81
  obtain ⟨K, gS, -⟩ := id hS
  have hbn := getlt hf gS
  (repeat first|refine zG ?_|(refine LS.nilO ?_;intro nq hnq hltq;try refine zU ?_)|(refine MS.new ?_;intro bq hbq hbqf;try refine zU ?_)|(refine MS.nil ?_;intro nq hnq hltq;have hlq:=hltq _ _ (Hp.get_eq _ _ _);clear hltq;try refine zU ?_)|(refine LS.nilQ ?_;try with_reducible intro nq hnq;try refine zU ?_))
  refine RS.call rfl ((spec_l01Pick m0 sv len f b t (fun i => ([2, 2, 3, 3, 5, 5, 7, 11, 31] : List Int).getD i 2) 9 n _ _ _ hR hfb hlen (fun x hx => by rw [Hp.get_ne _ _ (by omega)]; exact hm x hx) hbm (hS.keep (Hp.get_ne _ _ (by omega))) (by omega) (by omega) (by omega) (by exact zH) (by simp) (fun i hi => by
    rcases (show i = 0 ∨ i = 1 ∨ i = 2 ∨ i = 3 ∨ i = 4 ∨ i = 5 ∨ i = 6 ∨ i = 7 ∨ i = 8 by omega) with rfl | rfl | rfl | rfl | rfl | rfl | rfl | rfl | rfl <;> rfl)).mono ?_)
  rintro r H2 n2 hn2 ⟨i, hi, rfl, hS2, lo2⟩
  (repeat first|refine zG ?_|(refine LS.nilO ?_;intro nq hnq hltq;try refine zU ?_)|(refine MS.new ?_;intro bq hbq hbqf;try refine zU ?_)|(refine MS.nil ?_;intro nq hnq hltq;have hlq:=hltq _ _ (Hp.get_eq _ _ _);clear hltq;try refine zU ?_)|(refine LS.nilQ ?_;try with_reducible intro nq hnq;try refine zU ?_))
  have hp : 2 ≤ ([2, 2, 3, 3, 5, 5, 7, 11, 31] : List Int).getD i 2 ∧ ([2, 2, 3, 3, 5, 5, 7, 11, 31] : List Int).getD i 2 ≤ 31 := by
    rcases (show i = 0 ∨ i = 1 ∨ i = 2 ∨ i = 3 ∨ i = 4 ∨ i = 5 ∨ i = 6 ∨ i = 7 ∨ i = 8 by omega) with rfl | rfl | rfl | rfl | rfl | rfl | rfl | rfl | rfl <;> decide
  exact ⟨_, H2, rfl, Drops.refl _ _, _, rfl, hp.1, hp.2, hS2, fun y hy hyb => by rw [lo2 y hyb, Hp.get_ne _ _ (by omega)]⟩

/-- spec.l01Near -/
def ir46 : Cd := (.seq (.reg [⟨some 4,none,.mov (.c (.int .i64 0))⟩]) (.seq (.seq (.reg [⟨some 5,none,.mov (.t 0)⟩,⟨some 6,none,.call 45 [(.t 5),(.c (.int .i64 14))]⟩,⟨some 7,none,.bin .eql (.t 6) (.c (.int .i64 0))⟩]) (.cond (.t 7) (.seq (.reg [⟨some 8,none,.mov (.t 0)⟩,⟨some 9,none,.mov (.t 1)⟩,⟨some 10,none,.bin .add (.t 9) (.c (.int .i64 1))⟩,⟨some 11,none,.bsl 2 4 1 [(1,(.int .i64 0))] [(0,1,(.c (.int .i64 (-1)))),(1,1,(.t 10)),(2,1,(.c (.int .i64 1099511627776))),(3,1,(.c (.int .i64 (-4611686018427387904))))]⟩,⟨some 12,none,.call 44 [(.t 8),(.t 11)]⟩,⟨some 4,none,.mov (.t 12)⟩]) .ret) .skip)) (.seq (.reg [⟨some 13,none,.mov (.t 0)⟩,⟨some 14,none,.mov (.t 1)⟩,⟨some 15,none,.bin .add (.t 14) (.c (.int .i64 1))⟩,⟨some 16,none,.call 45 [(.t 13),(.t 15)]⟩,⟨some 4,none,.mov (.t 16)⟩]) .ret)))

set_option maxRecDepth 100000 in
theorem tr46 : trFn Tryz.prog Tryz.f46 = some (17, ir46, [.tmp 4]) := by kernel_rfl

theorem spec_l01Near (m0 : Nat) (sv : SV) (len : Nat) (f : Nat → Int) (b : Nat) (t : TypeId) (H : Hp) (n : Nat) (hR : RA m0 1 sv len f) (hfb : ∀ i, i < 1 * len → 0 ≤ f i ∧ f i ≤ 255) (hlen : len ≤ 4096) (hm : ∀ x, x < m0 → H.get x = none) (hbm : m0 ≤ b) (hS : SRQ H b t sv len) :
    FnS Tryz.prog 46 [ptr b 0, i64 100] H n (fun r H' _ => ∃ x : Int, r = i64 x ∧ -4611686018427387904 ≤ x ∧ x ≤ 1099511627776 ∧ SRQ H' b t sv len ∧ ∀ y, y < n → y ≠ b → H'.get y = H.get y) := by
  refine FnS.of_body Tryz.func46 tr46 (by simp) (fun hf => ?_)
  dsimp only [argEnv]
  unfold ir46
  obtain ⟨K, gS, -⟩ := id hS
  have hbn := getlt hf gS
  (repeat first|refine zG ?_|(refine LS.nilO ?_;intro nq hnq hltq;try refine zU ?_)|(refine MS.new ?_;intro bq hbq hbqf;try refine zU ?_)|(refine MS.nil ?_;intro nq hnq hltq;have hlq:=hltq _ _ (Hp.get_eq _ _ _);clear hltq;try refine zU ?_)|(refine LS.nilQ ?_;try with_reducible intro nq hnq;try refine zU ?_))
  refine RS.call rfl ((spec_l01Next m0 sv len f b t 14 _ _ hR hfb hlen hm hbm hS).mono ?_)
  rintro r H2 n2 hn2 ⟨x, rfl, hx0, hx1, -, hS2, lo2⟩
  have hm2 : ∀ x, x < m0 → H2.get x = none := fun x hx => by rw [lo2 x (by omega)]; exact hm x hx
  (repeat first|refine zG ?_|(refine LS.nilO ?_;intro nq hnq hltq;try refine zU ?_)|(refine MS.new ?_;intro bq hbq hbqf;try refine zU ?_)|(refine MS.nil ?_;intro nq hnq hltq;have hlq:=hltq _ _ (Hp.get_eq _ _ _);clear hltq;try refine zU ?_)|(refine LS.nilQ ?_;try with_reducible intro nq hnq;try refine zU ?_))
  refine zI ?_ ?_<;>intro h1
  · (repeat first|refine zG ?_|(refine LS.nilO ?_;intro nq hnq hltq;try refine zU ?_)|(refine MS.new ?_;intro bq hbq hbqf;try refine zU ?_)|(refine MS.nil ?_;intro nq hnq hltq;have hlq:=hltq _ _ (Hp.get_eq _ _ _);clear hltq;try refine zU ?_)|(refine LS.nilQ ?_;try with_reducible intro nq hnq;try refine zU ?_))
    refine RS.call rfl ((spec_l01Pick m0 sv len f b t (fun i => ([-1, 101, 1099511627776, -4611686018427387904] : List Int).getD i 2) 4 n2 _ _ _ hR hfb hlen (fun x hx => by rw [Hp.get_ne _ _ (by omega)]; exact hm2 x hx) hbm (hS2.keep (Hp.get_ne _ _ (by omega))) (by omega) (by omega) (by omega) (by exact zH) (by simp) (fun i hi => by
      rcases (show i = 0 ∨ i = 1 ∨ i = 2 ∨ i = 3 by omega) with rfl | rfl | rfl | rfl <;> rfl)).mono ?_)
    rintro r H3 n3 hn3 ⟨i, hi, rfl, hS3, lo3⟩
    (repeat first|refine zG ?_|(refine LS.nilO ?_;intro nq hnq hltq;try refine zU ?_)|(refine MS.new ?_;intro bq hbq hbqf;try refine zU ?_)|(refine MS.nil ?_;intro nq hnq hltq;have hlq:=hltq _ _ (Hp.get_eq _ _ _);clear hltq;try refine zU ?_)|(refine LS.nilQ ?_;try with_reducible intro nq hnq;try refine zU ?_))
    have hp : -4611686018427387904 ≤ ([-1, 101, 1099511627776, -4611686018427387904] : List Int).getD i 2 ∧ ([-1, 101, 1099511627776, -4611686018427387904] : List Int).getD i 2 ≤ 1099511627776 := by
      rcases (show i = 0 ∨ i = 1 ∨ i = 2 ∨ i = 3 by omega) with rfl | rfl | rfl | rfl <;> decide
    exact ⟨_, H3, rfl, Drops.refl _ _, _, rfl, hp.1, hp.2, hS3, fun y hy hyb => by rw [lo3 y hyb, Hp.get_ne _ _ (by omega)]; exact lo2 y hyb⟩
  · (repeat first|refine zG ?_|(refine LS.nilO ?_;intro nq hnq hltq;try refine zU ?_)|(refine MS.new ?_;intro bq hbq hbqf;try refine zU ?_)|(refine MS.nil ?_;intro nq hnq hltq;have hlq:=hltq _ _ (Hp.get_eq _ _ _);clear hltq;try refine zU ?_)|(refine LS.nilQ ?_;try with_reducible intro nq hnq;try refine zU ?_))
    refine RS.call rfl ((spec_l01Next m0 sv len f b t 101 _ _ hR hfb hlen hm2 hbm hS2).mono ?_)
    rintro r H3 n3 hn3 ⟨x, rfl, hx0, hx1, -, hS3, lo3⟩
    (repeat first|refine zG ?_|(refine LS.nilO ?_;intro nq hnq hltq;try refine zU ?_)|(refine MS.new ?_;intro bq hbq hbqf;try refine zU ?_)|(refine MS.nil ?_;intro nq hnq hltq;have hlq:=hltq _ _ (Hp.get_eq _ _ _);clear hltq;try refine zU ?_)|(refine LS.nilQ ?_;try with_reducible intro nq hnq;try refine zU ?_))
    exact ⟨_, H3, rfl, Drops.refl _ _, _, rfl, by omega, by have := hx1 (by omega); omega, hS3, fun y hy hyb => by rw [lo3 y hyb]; exact lo2 y hyb⟩

/-- spec.l01DrawVector -/
def ir57 : Cd := (.seq (.reg [⟨some 6,none,.new 25 [(8,(.int .u8 0))]⟩]) (.seq (.reg [⟨some 9,none,.build 8 [(8,(.int .u8 0))] []⟩,⟨some 7,none,.new 25 [(8,(.int .u8 0))]⟩,⟨none,none,.st 8 (.t 7) (.t 9)⟩]) (.seq (.seq (.reg [⟨some 8,none,.mov (.c (.int .i64 0))⟩]) (.block 0 (.loop (.seq (.seq (.reg [⟨some 10,none,.mov (.t 8)⟩,⟨some 11,none,.mov (.t 2)⟩,⟨some 12,none,.bin .lss (.t 10) (.t 11)⟩,⟨some 13,none,.mov (.t 12)⟩,⟨some 14,(some (13,true)),.mov (.t 8)⟩,⟨some 15,(some (13,true)),.bin .lss (.t 14) (.c (.int .i64 8))⟩,⟨some 16,none,.pick (.t 13) (.t 15) (.c (.bool false))⟩]) (.cond (.t 16) .skip (.exit 0))) (.seq (.block 1 (.seq (.reg [⟨some 19,none,.mov (.t 0)⟩,⟨some 20,none,.call 45 [(.t 19),(.c (.int .i64 2))]⟩,⟨some 21,none,.bin .eql (.t 20) (.c (.int .i64 0))⟩]) (.cond (.t 21) (.reg [⟨some 22,none,.mov (.t 8)⟩,⟨some 23,none,.mov (.t 0)⟩,⟨some 24,none,.mov (.t 1)⟩,⟨some 25,none,.mm true (.t 24) (.c (.int .i64 1))⟩,⟨some 26,none,.mm false (.t 25) (.c (.int .i64 255))⟩,⟨some 27,none,.call 45 [(.t 23),(.t 26)]⟩,⟨some 28,none,.cv .u8 (.t 27)⟩,⟨some 29,none,.ia 8 1 (.t 7) (.t 22)⟩,⟨none,none,.st 1 (.t 29) (.t 28)⟩]) .skip))) (.reg [⟨some 17,none,.mov (.t 8)⟩,⟨some 18,none,.bin .add (.t 17) (.c (.int .i64 1))⟩,⟨some 8,none,.mov (.t 18)⟩])))))) (.seq (.reg [⟨some 30,none,.ld (some 8) (.t 7)⟩,⟨none,none,.st 8 (.t 6) (.t 30)⟩]) .ret))))

set_option maxRecDepth 100000 in
theorem tr57 : trFn Tryz.prog Tryz.f57 = some (31, ir57, [.cell (some 8) 6]) := by kernel_rfl

theorem spec_l01DrawVector (m0 : Nat) (sv : SV) (len : Nat) (f : Nat → Int) (b : Nat) (t : TypeId) (p n' : Int) (H : Hp) (n : Nat) (hR : RA m0 1 sv len f) (hfb : ∀ i, i < 1 * len → 0 ≤ f i ∧ f i ≤ 255) (hlen : len ≤ 4096) (hm : ∀ x, x < m0 → H.get x = none) (hbm : m0 ≤ b) (hS : SRQ H b t sv len) :
    FnS Tryz.prog 57 [ptr b 0, i64 p, i64 n'] H n (fun r H' _ => ∃ v : Nat → Int, r = .arr 8 (bys v) ∧ isBy 8 v ∧ SRQ H' b t sv len ∧ ∀ y, y < n → y ≠ b → H'.get y = H.get y) := by
  refine FnS.of_body Tryz.func57 tr57 (by simp) (fun hf => ?_)
  dsimp only [argEnv]
  unfold ir57
  obtain ⟨K, gS, -⟩ := id hS
  have hbn := getlt hf gS
  (repeat first|refine zG ?_|(refine LS.nilO ?_;intro nq hnq hltq;try refine zU ?_)|(refine MS.new ?_;intro bq hbq hbqf;try refine zU ?_)|(refine MS.nil ?_;intro nq hnq hltq;have hlq:=hltq _ _ (Hp.get_eq _ _ _);clear hltq;try refine zU ?_)|(refine LS.nilQ ?_;try with_reducible intro nq hnq;try refine zU ?_))
  refine CS.weak (e1 := [(8, i64 (((0 : Nat) : Int))), (0, ptr b 0), (1, i64 p), (2, i64 n'), (6, ptr n 0), (7, ptr (n + 1) 0)]) (by (repeat first | exact trivial | refine And.intro rfl ?_)) (Drops.refl _ _) ?_
  refine CS.loop (fun kx en H1 n1 => ∃ i v, i ≤ 8 ∧ kx = 8 - i ∧ en = [(8, i64 ((i : Nat) : Int)), (0, ptr b 0), (1, i64 p), (2, i64 n'), (6, ptr n 0), (7, ptr (n + 1) 0)] ∧ (∃ k7, H1.get (n + 1) = some k7 ∧ k7.size = 8 ∧ ∀ q, q < 8 → k7.c q = .int .u8 (v q)) ∧ isBy 8 v ∧ (∃ k6, H1.get n = some k6 ∧ k6.size = 8) ∧ SRQ H1 b t sv len ∧ (∀ y, y < n → y ≠ b → H1.get y = H.get y) ∧ ∀ x, n1 ≤ x → H1.get x = none) 8 ?_ ?_
  · exact ⟨0, fun _ => 0, by omega, rfl, rfl, ⟨_, Hp.get_eq _ _ _, rfl, fun q hq => by
      rcases (show q = 0 ∨ q = 1 ∨ q = 2 ∨ q = 3 ∨ q = 4 ∨ q = 5 ∨ q = 6 ∨ q = 7 by omega) with rfl | rfl | rfl | rfl | rfl | rfl | rfl | rfl <;> rfl⟩, fun q hq => by (try dsimp only); omega, ⟨_, by exact zH, rfl⟩, hS.keep (by simp (disch := omega) only [Hp.get_ne]), fun y hy hyb => by simp (disch := omega) only [Hp.get_ne], fun x hx => by simp (disch := omega) only [Hp.get_ne]; exact hf x (by omega)⟩
  rintro kx en H1 n1 hn1 ⟨i, v, hi, rfl, rfl, ⟨k7, g7, s7, c7⟩, hv, ⟨k6, g6, s6⟩, hS1, lo1, hfr1⟩
  have hm1 : ∀ x, x < m0 → H1.get x = none := fun x hx => by rw [lo1 x (by omega) (by omega)]; exact hm x hx
  have h71 := getlt hfr1 g7
  (repeat first|refine zG ?_|(refine LS.nilO ?_;intro nq hnq hltq;try refine zU ?_)|(refine MS.new ?_;intro bq hbq hbqf;try refine zU ?_)|(refine MS.nil ?_;intro nq hnq hltq;have hlq:=hltq _ _ (Hp.get_eq _ _ _);clear hltq;try refine zU ?_)|(refine LS.nilQ ?_;try with_reducible intro nq hnq;try refine zU ?_))
  refine RS.sp (t := 13) rfl (fun h1 => ?_) (fun h1 => ?_) <;> (try simp only [tb_eq, tb_eqF, decide_eq_true_eq, decide_eq_false_iff_not, beq_iff_eq, bne_iff_ne, ne_eq, Decidable.not_not, beq_eq_false_iff_ne, bne_eq_false_iff_eq, Bool.not_eq_true', Bool.not_eq_false', Bool.not_eq_eq_eq_not, Bool.not_true, Bool.not_false] at h1)
  · (repeat first|refine zG ?_|(refine LS.nilO ?_;intro nq hnq hltq;try refine zU ?_)|(refine MS.new ?_;intro bq hbq hbqf;try refine zU ?_)|(refine MS.nil ?_;intro nq hnq hltq;have hlq:=hltq _ _ (Hp.get_eq _ _ _);clear hltq;try refine zU ?_)|(refine LS.nilQ ?_;try with_reducible intro nq hnq;try refine zU ?_))
    refine zI ?_ ?_<;>intro h2
    · have hi' : i < 8 := by omega
      (repeat first|refine zG ?_|(refine LS.nilO ?_;intro nq hnq hltq;try refine zU ?_)|(refine MS.new ?_;intro bq hbq hbqf;try refine zU ?_)|(refine MS.nil ?_;intro nq hnq hltq;have hlq:=hltq _ _ (Hp.get_eq _ _ _);clear hltq;try refine zU ?_)|(refine LS.nilQ ?_;try with_reducible intro nq hnq;try refine zU ?_))
      refine RS.call rfl ((spec_l01Next m0 sv len f b t 2 _ _ hR hfb hlen hm1 hbm hS1).mono ?_)
      rintro r H2 n2 hn2 ⟨x, rfl, hx0, hx1, -, hS2, lo2⟩
      have g72 : H2.get (n + 1) = some k7 := by rw [lo2 (n + 1) (by omega)]; exact g7
      have g62 : H2.get n = some k6 := by rw [lo2 n (by omega)]; exact g6
      have hm2 : ∀ x, x < m0 → H2.get x = none := fun x hx => by rw [lo2 x (by omega)]; exact hm1 x hx
      have hfr2 : ∀ x, n2 ≤ x → H2.get x = none := fun x hx => by rw [lo2 x (by omega)]; exact hfr1 x (by omega)
      (repeat first|refine zG ?_|(refine LS.nilO ?_;intro nq hnq hltq;try refine zU ?_)|(refine MS.new ?_;intro bq hbq hbqf;try refine zU ?_)|(refine MS.nil ?_;intro nq hnq hltq;have hlq:=hltq _ _ (Hp.get_eq _ _ _);clear hltq;try refine zU ?_)|(refine LS.nilQ ?_;try with_reducible intro nq hnq;try refine zU ?_))
      refine zI ?_ ?_<;>intro h3
      · (repeat first|refine zG ?_|(refine LS.nilO ?_;intro nq hnq hltq;try refine zU ?_)|(refine MS.new ?_;intro bq hbq hbqf;try refine zU ?_)|(refine MS.nil ?_;intro nq hnq hltq;have hlq:=hltq _ _ (Hp.get_eq _ _ _);clear hltq;try refine zU ?_)|(refine LS.nilQ ?_;try with_reducible intro nq hnq;try refine zU ?_))
        refine RS.mmx (by exact rfl) (by exact rfl) (fun c1 hc1 hc2 hc3 => ?_)
        (repeat first|refine zG ?_|(refine LS.nilO ?_;intro nq hnq hltq;try refine zU ?_)|(refine MS.new ?_;intro bq hbq hbqf;try refine zU ?_)|(refine MS.nil ?_;intro nq hnq hltq;have hlq:=hltq _ _ (Hp.get_eq _ _ _);clear hltq;try refine zU ?_)|(refine LS.nilQ ?_;try with_reducible intro nq hnq;try refine zU ?_))
        refine RS.mmn (by exact rfl) (by exact rfl) (fun c2 hc4 hc5 hc6 => ?_)
        (repeat first|refine zG ?_|(refine LS.nilO ?_;intro nq hnq hltq;try refine zU ?_)|(refine MS.new ?_;intro bq hbq hbqf;try refine zU ?_)|(refine MS.nil ?_;intro nq hnq hltq;have hlq:=hltq _ _ (Hp.get_eq _ _ _);clear hltq;try refine zU ?_)|(refine LS.nilQ ?_;try with_reducible intro nq hnq;try refine zU ?_))
        refine RS.call rfl ((spec_l01Next m0 sv len f b t c2 _ _ hR hfb hlen hm2 hbm hS2).mono ?_)
        rintro r H3 n3 hn3 ⟨y, rfl, hy0, hy1, -, hS3, lo3⟩
        have hy2 := hy1 (by omega)
        have g73 : H3.get (n + 1) = some k7 := by rw [lo3 (n + 1) (by omega)]; exact g72
        have g63 : H3.get n = some k6 := by rw [lo3 n (by omega)]; exact g62
        have hfr3 : ∀ x, n3 ≤ x → H3.get x = none := fun x hx => by rw [lo3 x (by omega)]; exact hfr2 x (by omega)
        (repeat first|refine zG ?_|(refine LS.nilO ?_;intro nq hnq hltq;try refine zU ?_)|(refine MS.new ?_;intro bq hbq hbqf;try refine zU ?_)|(refine MS.nil ?_;intro nq hnq hltq;have hlq:=hltq _ _ (Hp.get_eq _ _ _);clear hltq;try refine zU ?_)|(refine LS.nilQ ?_;try with_reducible intro nq hnq;try refine zU ?_))
        exact ⟨8 - (i + 1), [(8, i64 (((i + 1 : Nat) : Int))), (0, ptr b 0), (1, i64 p), (2, i64 n'), (6, ptr n 0), (7, ptr (n + 1) 0)], _, by omega, by (repeat first | exact trivial | refine And.intro rfl ?_), Drops.refl _ _, i + 1, fun q => if q = i then y else v q, by omega, rfl, rfl, ⟨_, Hp.get_set_self _ g73, s7, fun q hq => by
          (try dsimp only)
          unfold put1
          by_cases e : q = i
          · rw [if_pos (by omega), if_pos e]
          · rw [if_neg (by omega), if_neg e]; exact c7 q hq⟩, fun q hq => by
          (try dsimp only)
          split
          · omega
          · exact hv q hq, ⟨k6, by rw [Hp.get_set_other _ (by omega)]; exact g63, s6⟩, hS3.keep (Hp.get_set_other _ (by omega)), fun z hz hzb => by rw [Hp.get_set_other _ (by omega), lo3 z hzb, lo2 z hzb]; exact lo1 z hz hzb, fun z hz => by rw [Hp.get_set_other _ (by omega)]; exact hfr3 z hz⟩
      · (repeat first|refine zG ?_|(refine LS.nilO ?_;intro nq hnq hltq;try refine zU ?_)|(refine MS.new ?_;intro bq hbq hbqf;try refine zU ?_)|(refine MS.nil ?_;intro nq hnq hltq;have hlq:=hltq _ _ (Hp.get_eq _ _ _);clear hltq;try refine zU ?_)|(refine LS.nilQ ?_;try with_reducible intro nq hnq;try refine zU ?_))
        exact ⟨8 - (i + 1), [(8, i64 (((i + 1 : Nat) : Int))), (0, ptr b 0), (1, i64 p), (2, i64 n'), (6, ptr n 0), (7, ptr (n + 1) 0)], H2, by omega, by (repeat first | exact trivial | refine And.intro rfl ?_), Drops.refl _ _, i + 1, v, by omega, rfl, rfl, ⟨k7, g72, s7, c7⟩, hv, ⟨k6, g62, s6⟩, hS2, fun z hz hzb => by rw [lo2 z hzb]; exact lo1 z hz hzb, hfr2⟩
    · (repeat first|refine zG ?_|(refine LS.nilO ?_;intro nq hnq hltq;try refine zU ?_)|(refine MS.new ?_;intro bq hbq hbqf;try refine zU ?_)|(refine MS.nil ?_;intro nq hnq hltq;have hlq:=hltq _ _ (Hp.get_eq _ _ _);clear hltq;try refine zU ?_)|(refine LS.nilQ ?_;try with_reducible intro nq hnq;try refine zU ?_))
      exact ⟨.arr 8 (bys v), _, conc_arr (fun q hq => by rw [Nat.zero_add]; unfold splice; rw [if_pos (by omega), Nat.sub_zero]; exact c7 q hq), Drops.refl _ _, v, rfl, hv, hS1.keep (Hp.get_set_other _ (by omega)), fun y hy hyb => by rw [Hp.get_set_other _ (by omega)]; exact lo1 y hy hyb⟩
  · (repeat first|refine zG ?_|(refine LS.nilO ?_;intro nq hnq hltq;try refine zU ?_)|(refine MS.new ?_;intro bq hbq hbqf;try refine zU ?_)|(refine MS.nil ?_;intro nq hnq hltq;have hlq:=hltq _ _ (Hp.get_eq _ _ _);clear hltq;try refine zU ?_)|(refine LS.nilQ ?_;try with_reducible intro nq hnq;try refine zU ?_))
    exact ⟨.arr 8 (bys v), _, conc_arr (fun q hq => by rw [Nat.zero_add]; unfold splice; rw [if_pos (by omega), Nat.sub_zero]; exact c7 q hq), Drops.refl _ _, v, rfl, hv, hS1.keep (Hp.get_set_other _ (by omega)), fun y hy hyb => by rw [Hp.get_set_other _ (by omega)]; exact lo1 y hy hyb⟩

end Go.Proofs.YtgnphaopeplfbaaGreatDoor
