/- Contracts of the program's functions. -/
import Derived.Test.YtdellpnmbgjofaaR
import Derived.Test.YtdellpnmbgjofaaB00
namespace Go.Proofs.Ytdellpnmbgjofaa
open Go.V
set_option linter.unusedSimpArgs false
set_option linter.unusedVariables false
set_option maxHeartbeats 4000000
/-- impl.in -/
def ir56 : Cd := (.seq (.reg [⟨some 6,none,.mov (.c (.bool false))⟩]) (.seq (.reg [⟨some 7,none,.mov (.t 1)⟩,⟨some 8,none,.mov (.t 0)⟩,⟨some 9,none,.bin .leq (.t 7) (.t 8)⟩,⟨some 10,none,.mov (.t 9)⟩,⟨some 11,(some (10,true)),.mov (.t 0)⟩,⟨some 12,(some (10,true)),.mov (.t 2)⟩,⟨some 13,(some (10,true)),.bin .leq (.t 11) (.t 12)⟩,⟨some 14,none,.pick (.t 10) (.t 13) (.c (.bool false))⟩,⟨some 6,none,.mov (.t 14)⟩]) .ret))
set_option maxRecDepth 100000 in
theorem tr56 : trFn Try.prog Try.f56 = some (15, ir56, [.tmp 6]) := by kernel_rfl
theorem impl_in (x a b : Int) (H : Hp) (n : Nat) :
    FnS Try.prog 56 [i64 x, i64 a, i64 b] H n (fun v H' _ => v = bl (decide (a ≤ x ∧ x ≤ b)) ∧ H' = H) := by
  refine FnS.of_body Try.func56 tr56 (by simp) (fun hf => ?_)
  dsimp only [argEnv]
  unfold ir56
  (repeat first|refine zG ?_|(refine LS.nilO ?_;intro nq hnq hltq;try refine zU ?_)|(refine MS.new ?_;intro bq hbq hbqf;try refine zU ?_)|(refine MS.nil ?_;intro nq hnq hltq;have hlq:=hltq _ _ (Hp.get_eq _ _ _);clear hltq;try refine zU ?_)|(refine LS.nilQ ?_;try with_reducible intro nq hnq;try refine zU ?_))
  refine RS.sp (t := 10) rfl (fun h => ?_) (fun h => ?_) <;> (try simp only [tb_eq, tb_eqF, decide_eq_true_eq, decide_eq_false_iff_not, beq_iff_eq, bne_iff_ne, ne_eq, Decidable.not_not, beq_eq_false_iff_ne, bne_eq_false_iff_eq, Bool.not_eq_true', Bool.not_eq_false', Bool.not_eq_eq_eq_not, Bool.not_true, Bool.not_false] at h)
  all_goals
    (repeat first|refine zG ?_|(refine LS.nilO ?_;intro nq hnq hltq;try refine zU ?_)|(refine MS.new ?_;intro bq hbq hbqf;try refine zU ?_)|(refine MS.nil ?_;intro nq hnq hltq;have hlq:=hltq _ _ (Hp.get_eq _ _ _);clear hltq;try refine zU ?_)|(refine LS.nilQ ?_;try with_reducible intro nq hnq;try refine zU ?_))
    exact ⟨_, H, rfl, by exact zD, by simp [h], rfl⟩
/-- spec.l01Inverse -/
def ir43 : Cd := (.seq (.reg [⟨some 4,none,.mov (.c (.int .u8 0))⟩]) (.seq (.seq (.reg [⟨some 5,none,.mov (.c (.int .i64 1))⟩]) (.block 0 (.loop (.seq (.seq (.reg [⟨some 6,none,.mov (.t 5)⟩,⟨some 7,none,.mov (.t 0)⟩,⟨some 8,none,.bin .lss (.t 6) (.t 7)⟩]) (.cond (.t 8) .skip (.exit 0))) (.seq (.block 1 (.seq (.reg [⟨some 11,none,.mov (.t 5)⟩,⟨some 12,none,.mov (.t 1)⟩,⟨some 13,none,.cv .i64 (.t 12)⟩,⟨some 14,none,.bin .mul (.t 11) (.t 13)⟩,⟨some 15,none,.mov (.t 0)⟩,⟨some 16,none,.bin .rem (.t 14) (.t 15)⟩,⟨some 17,none,.bin .eql (.t 16) (.c (.int .i64 1))⟩]) (.cond (.t 17) (.seq (.reg [⟨some 18,none,.mov (.t 5)⟩,⟨some 19,none,.cv .u8 (.t 18)⟩,⟨some 4,none,.mov (.t 19)⟩]) .ret) .skip))) (.reg [⟨some 9,none,.mov (.t 5)⟩,⟨some 10,none,.bin .add (.t 9) (.c (.int .i64 1))⟩,⟨some 5,none,.mov (.t 10)⟩])))))) (.seq (.reg [⟨some 4,none,.mov (.c (.int .u8 0))⟩]) .ret)))
set_option maxRecDepth 100000 in
theorem tr43 : trFn Try.prog Try.f43 = some (20, ir43, [.tmp 4]) := by kernel_rfl
theorem spec_l01Inverse (p x : Int) (H : Hp) (n : Nat) (hp : isP p = true) (hx : 0 ≤ x ∧ x ≤ 255) (hx0 : x % p ≠ 0) :
    FnS Try.prog 43 [i64 p, u8 x] H n (fun v H' _ => v = u8 (inv p x) ∧ H' = H) := by
  have hb := isP_le hp
  have hs := inv_spec hp hx0
  refine FnS.of_body Try.func43 tr43 (by simp) (fun hf => ?_)
  dsimp only [argEnv]
  unfold ir43
  (repeat first|refine zG ?_|(refine LS.nilO ?_;intro nq hnq hltq;try refine zU ?_)|(refine MS.new ?_;intro bq hbq hbqf;try refine zU ?_)|(refine MS.nil ?_;intro nq hnq hltq;have hlq:=hltq _ _ (Hp.get_eq _ _ _);clear hltq;try refine zU ?_)|(refine LS.nilQ ?_;try with_reducible intro nq hnq;try refine zU ?_))
  refine CS.iter 31 (fun i => [(5, i64 (i + 1 : Nat)), (0, i64 p), (1, u8 x)]) (fun _ => H) (fun i => ((i + 1 : Nat) : Int) ≤ p ∧ ∀ k : Nat, 1 ≤ k → k < i + 1 → (k : Int) * x % p ≠ 1) (by (repeat first | exact trivial | refine And.intro rfl ?_)) (Drops.refl _ _) ⟨by omega, fun k h1 h2 => by omega⟩ ?_
  intro i n1 hi hn ⟨hJ1, hJ⟩
  have hm := mulB (a := ((i + 1 : Nat) : Int)) (b := x) (A := 31) (B := 255) (by omega) (by omega) (by omega) (by omega)
  (repeat first|refine zG ?_|(refine LS.nilO ?_;intro nq hnq hltq;try refine zU ?_)|(refine MS.new ?_;intro bq hbq hbqf;try refine zU ?_)|(refine MS.nil ?_;intro nq hnq hltq;have hlq:=hltq _ _ (Hp.get_eq _ _ _);clear hltq;try refine zU ?_)|(refine LS.nilQ ?_;try with_reducible intro nq hnq;try refine zU ?_))
  refine zI ?_ ?_<;>intro h1
  · (repeat first|refine zG ?_|(refine LS.nilO ?_;intro nq hnq hltq;try refine zU ?_)|(refine MS.new ?_;intro bq hbq hbqf;try refine zU ?_)|(refine MS.nil ?_;intro nq hnq hltq;have hlq:=hltq _ _ (Hp.get_eq _ _ _);clear hltq;try refine zU ?_)|(refine LS.nilQ ?_;try with_reducible intro nq hnq;try refine zU ?_))
    refine zI ?_ ?_<;>intro h2
    · (repeat first|refine zG ?_|(refine LS.nilO ?_;intro nq hnq hltq;try refine zU ?_)|(refine MS.new ?_;intro bq hbq hbqf;try refine zU ?_)|(refine MS.nil ?_;intro nq hnq hltq;have hlq:=hltq _ _ (Hp.get_eq _ _ _);clear hltq;try refine zU ?_)|(refine LS.nilQ ?_;try with_reducible intro nq hnq;try refine zU ?_))
      exact ⟨u8 (inv p x), H, by rw [inv_eq hp (by omega) (by omega) h2], by exact zD, rfl, rfl⟩
    · (repeat first|refine zG ?_|(refine LS.nilO ?_;intro nq hnq hltq;try refine zU ?_)|(refine MS.new ?_;intro bq hbq hbqf;try refine zU ?_)|(refine MS.nil ?_;intro nq hnq hltq;have hlq:=hltq _ _ (Hp.get_eq _ _ _);clear hltq;try refine zU ?_)|(refine LS.nilQ ?_;try with_reducible intro nq hnq;try refine zU ?_))
      refine ⟨by omega, by (repeat first | exact trivial | refine And.intro rfl ?_), by exact zD, by omega, fun k h3 h4 => ?_⟩
      by_cases e : k < i + 1
      · exact hJ k h3 e
      · have : k = i + 1 := by omega
        subst this; exact h2
  · exfalso
    obtain ⟨q, hq⟩ : ∃ q : Nat, inv p x = q := ⟨(inv p x).toNat, by omega⟩
    exact hJ q (by omega) (by omega) (by rw [← hq]; exact hs.2.2)
/-- spec.l01Zero -/
def ir26 : Cd := (.seq (.reg [⟨some 1,none,.box 27 (.t 0)⟩,⟨some 2,none,.mov (.c (.bool false))⟩]) (.seq (.reg [⟨some 3,none,.ld (some 8) (.t 1)⟩,⟨some 4,none,.build 8 [(8,(.int .u8 0))] []⟩,⟨some 5,none,.eqa false 8 (.t 3) (.t 4)⟩,⟨some 2,none,.mov (.t 5)⟩]) .ret))
set_option maxRecDepth 100000 in
theorem tr26 : trFn Try.prog Try.f26 = some (6, ir26, [.tmp 2]) := by kernel_rfl
theorem spec_l01Zero (v : Nat → Int) (H : Hp) (n : Nat) :
    FnS Try.prog 26 [.arr 8 (bys v)] H n (fun r H' _ => r = bl (tb (∀ q, q < 8 → v q = 0)) ∧ H' = H) := by
  refine FnS.of_body Try.func26 tr26 (by simp) (fun hf => ?_)
  dsimp only [argEnv]
  unfold ir26
  (repeat first|refine zG ?_|(refine LS.nilO ?_;intro nq hnq hltq;try refine zU ?_)|(refine MS.new ?_;intro bq hbq hbqf;try refine zU ?_)|(refine MS.nil ?_;intro nq hnq hltq;have hlq:=hltq _ _ (Hp.get_eq _ _ _);clear hltq;try refine zU ?_)|(refine LS.nilQ ?_;try with_reducible intro nq hnq;try refine zU ?_))
  exact ⟨_, H, rfl, by exact zD, rfl, rfl⟩
/-- slices.IndexFunc[[]impl.Vector,impl.Vector] -/
def ir54 : Cd := (.seq (.reg [⟨some 4,none,.mov (.c (.int .i64 0))⟩]) (.seq (.seq (.reg [⟨some 6,none,.mov (.t 0)⟩,⟨some 7,none,.len (.t 6)⟩,⟨some 8,none,.mov (.c (.int .i64 0))⟩]) (.block 0 (.loop (.seq (.reg [⟨some 9,none,.bin .lss (.t 8) (.t 7)⟩]) (.seq (.cond (.t 9) .skip (.exit 0)) (.seq (.block 1 (.seq (.reg [⟨some 10,none,.mov (.t 8)⟩,⟨some 5,none,.mov (.t 10)⟩]) (.seq (.reg [⟨some 11,none,.mov (.t 1)⟩,⟨some 12,none,.mov (.t 0)⟩,⟨some 13,none,.mov (.t 5)⟩,⟨some 14,none,.isl 8 (.t 12) (.t 13)⟩,⟨some 15,none,.ld (some 8) (.t 14)⟩,⟨some 16,none,.callv (.t 11) [(.t 15)]⟩]) (.cond (.t 16) (.seq (.reg [⟨some 17,none,.mov (.t 5)⟩,⟨some 4,none,.mov (.t 17)⟩]) .ret) .skip)))) (.reg [⟨some 18,none,.bin .add (.t 8) (.c (.int .i64 1))⟩,⟨some 8,none,.mov (.t 18)⟩]))))))) (.seq (.reg [⟨some 4,none,.mov (.c (.int .i64 (-1)))⟩]) .ret)))
set_option maxRecDepth 100000 in
theorem tr54 : trFn Try.prog Try.f54 = some (19, ir54, [.tmp 4]) := by kernel_rfl
theorem slices_IndexFunc (Q : Nat → Prop) (F : FuncId) (post : List SV) (v : SV) (len : Nat) (hl : len ≤ 1000) (w : Nat → Int) (H : Hp) (n : Nat) (hv : lst H v len w)
    (hF : ∀ i n' : Nat, i < len → n ≤ n' → FnS Try.prog F ([.arr 8 (bys (fun x => w (i * 8 + x)))] ++ post.map .s) H n' (fun r H' _ => r = bl (tb (Q i)) ∧ H' = H)) :
    FnS Try.prog 54 [.s v, .s (.fn F [] post)] H n (fun r H' _ => (∃ x, r = i64 x ∧ (0 ≤ x ↔ ∃ i, i < len ∧ Q i)) ∧ H' = H) := by
  refine FnS.of_body Try.func54 tr54 (by simp) (fun hf => ?_)
  dsimp only [argEnv]
  unfold ir54
  rcases hv with ⟨rfl, rfl⟩ | ⟨b, o, c, K, rfl, hb, ho, hc⟩
  · (repeat first|refine zG ?_|(refine LS.nilO ?_;intro nq hnq hltq;try refine zU ?_)|(refine MS.new ?_;intro bq hbq hbqf;try refine zU ?_)|(refine MS.nil ?_;intro nq hnq hltq;have hlq:=hltq _ _ (Hp.get_eq _ _ _);clear hltq;try refine zU ?_)|(refine LS.nilQ ?_;try with_reducible intro nq hnq;try refine zU ?_))
    refine CS.iter 0 (fun i => [(8, i64 i), (7, i64 0)]) (fun _ => H) (fun _ => True) (by (repeat first | exact trivial | refine And.intro rfl ?_)) (Drops.refl _ _) trivial ?_
    intro i n1 hi hn _
    (repeat first|refine zG ?_|(refine LS.nilO ?_;intro nq hnq hltq;try refine zU ?_)|(refine MS.new ?_;intro bq hbq hbqf;try refine zU ?_)|(refine MS.nil ?_;intro nq hnq hltq;have hlq:=hltq _ _ (Hp.get_eq _ _ _);clear hltq;try refine zU ?_)|(refine LS.nilQ ?_;try with_reducible intro nq hnq;try refine zU ?_))
    exact ⟨_, H, rfl, by exact zD, ⟨-1, rfl, by omega, fun ⟨i, hi, _⟩ => by omega⟩, rfl⟩
  · (repeat first|refine zG ?_|(refine LS.nilO ?_;intro nq hnq hltq;try refine zU ?_)|(refine MS.new ?_;intro bq hbq hbqf;try refine zU ?_)|(refine MS.nil ?_;intro nq hnq hltq;have hlq:=hltq _ _ (Hp.get_eq _ _ _);clear hltq;try refine zU ?_)|(refine LS.nilQ ?_;try with_reducible intro nq hnq;try refine zU ?_))
    refine CS.iter len (fun i => [(8, i64 i), (7, i64 len), (0, .s (.slc b o len c)), (1, .s (.fn F [] post))]) (fun _ => H) (fun i => ∀ i', i' < i → ¬Q i') (by (repeat first | exact trivial | refine And.intro rfl ?_)) (Drops.refl _ _) (fun _ h => by omega) ?_
    intro i n1 hi hn hJ
    (repeat first|refine zG ?_|(refine LS.nilO ?_;intro nq hnq hltq;try refine zU ?_)|(refine MS.new ?_;intro bq hbq hbqf;try refine zU ?_)|(refine MS.nil ?_;intro nq hnq hltq;have hlq:=hltq _ _ (Hp.get_eq _ _ _);clear hltq;try refine zU ?_)|(refine LS.nilQ ?_;try with_reducible intro nq hnq;try refine zU ?_))
    refine zI ?_ ?_<;>intro h1
    · (repeat first|refine zG ?_|(refine LS.nilO ?_;intro nq hnq hltq;try refine zU ?_)|(refine MS.new ?_;intro bq hbq hbqf;try refine zU ?_)|(refine MS.nil ?_;intro nq hnq hltq;have hlq:=hltq _ _ (Hp.get_eq _ _ _);clear hltq;try refine zU ?_)|(refine LS.nilQ ?_;try with_reducible intro nq hnq;try refine zU ?_))
      refine RS.callv (f := F) (pre := []) (post := post) (vs := [.arr 8 (bys (fun x => w (i * 8 + x)))]) (by exact rfl) (by exact rfl) ?_
      refine FnS.mono (hF i n1 (by omega) (by omega)) ?_
      rintro r H n2 hn2 ⟨rfl, rfl⟩
      (repeat first|refine zG ?_|(refine LS.nilO ?_;intro nq hnq hltq;try refine zU ?_)|(refine MS.new ?_;intro bq hbq hbqf;try refine zU ?_)|(refine MS.nil ?_;intro nq hnq hltq;have hlq:=hltq _ _ (Hp.get_eq _ _ _);clear hltq;try refine zU ?_)|(refine LS.nilQ ?_;try with_reducible intro nq hnq;try refine zU ?_))
      refine zI ?_ ?_<;>intro h2
      · (repeat first|refine zG ?_|(refine LS.nilO ?_;intro nq hnq hltq;try refine zU ?_)|(refine MS.new ?_;intro bq hbq hbqf;try refine zU ?_)|(refine MS.nil ?_;intro nq hnq hltq;have hlq:=hltq _ _ (Hp.get_eq _ _ _);clear hltq;try refine zU ?_)|(refine LS.nilQ ?_;try with_reducible intro nq hnq;try refine zU ?_))
        exact ⟨_, H, rfl, by exact zD, ⟨i, rfl, fun _ => ⟨i, by omega, h2⟩, fun _ => by omega⟩, rfl⟩
      · (repeat first|refine zG ?_|(refine LS.nilO ?_;intro nq hnq hltq;try refine zU ?_)|(refine MS.new ?_;intro bq hbq hbqf;try refine zU ?_)|(refine MS.nil ?_;intro nq hnq hltq;have hlq:=hltq _ _ (Hp.get_eq _ _ _);clear hltq;try refine zU ?_)|(refine LS.nilQ ?_;try with_reducible intro nq hnq;try refine zU ?_))
        refine ⟨by omega, by (repeat first | exact trivial | refine And.intro rfl ?_), Drops.refl _ _, fun i' hi' => ?_⟩
        by_cases e : i' = i
        · subst e; exact h2
        · exact hJ i' (by omega)
    · have : i = len := by omega
      subst this
      (repeat first|refine zG ?_|(refine LS.nilO ?_;intro nq hnq hltq;try refine zU ?_)|(refine MS.new ?_;intro bq hbq hbqf;try refine zU ?_)|(refine MS.nil ?_;intro nq hnq hltq;have hlq:=hltq _ _ (Hp.get_eq _ _ _);clear hltq;try refine zU ?_)|(refine LS.nilQ ?_;try with_reducible intro nq hnq;try refine zU ?_))
      exact ⟨_, H, rfl, by exact zD, ⟨-1, rfl, by omega, fun ⟨i', hi', hq⟩ => absurd hq (hJ i' hi')⟩, rfl⟩
/-- laws.eqVector -/
def ir8 : Cd := (.seq (.reg [⟨some 2,none,.box 27 (.t 0)⟩,⟨some 3,none,.box 27 (.t 1)⟩,⟨some 4,none,.mov (.c (.bool false))⟩]) (.seq (.seq (.reg [⟨some 5,none,.mov (.c (.int .i64 0))⟩]) (.block 0 (.loop (.seq (.seq (.reg [⟨some 6,none,.mov (.t 5)⟩,⟨some 7,none,.bin .lss (.t 6) (.c (.int .i64 8))⟩]) (.cond (.t 7) .skip (.exit 0))) (.seq (.block 1 (.seq (.drw true [] [⟨some 10,none,.mov (.t 5)⟩,⟨some 11,none,.ia 8 1 (.t 2) (.t 10)⟩,⟨some 12,none,.ld none (.t 11)⟩,⟨some 13,none,.mov (.t 5)⟩,⟨some 14,none,.ia 8 1 (.t 3) (.t 13)⟩,⟨some 15,none,.ld none (.t 14)⟩,⟨some 16,none,.bin .neq (.t 12) (.t 15)⟩]) (.cond (.t 16) (.seq (.reg [⟨some 4,none,.mov (.c (.bool false))⟩]) .ret) .skip))) (.reg [⟨some 8,none,.mov (.t 5)⟩,⟨some 9,none,.bin .add (.t 8) (.c (.int .i64 1))⟩,⟨some 5,none,.mov (.t 9)⟩])))))) (.seq (.reg [⟨some 4,none,.mov (.c (.bool true))⟩]) .ret)))
set_option maxRecDepth 100000 in
theorem tr8 : trFn Try.prog Try.f8 = some (17, ir8, [.tmp 4]) := by kernel_rfl
theorem laws_eqVector (f g : Nat → Int) (H : Hp) (n : Nat) :
    FnS Try.prog 8 [.arr 8 (bys f), .arr 8 (bys g)] H n (fun r H' _ => r = bl (tb (∀ q, q < 8 → f q = g q)) ∧ H' = H) := by
  refine FnS.of_body Try.func8 tr8 (by simp) (fun hf => ?_)
  dsimp only [argEnv]
  unfold ir8
  (repeat first|refine zG ?_|(refine LS.nilO ?_;intro nq hnq hltq;try refine zU ?_)|(refine MS.new ?_;intro bq hbq hbqf;try refine zU ?_)|(refine MS.nil ?_;intro nq hnq hltq;have hlq:=hltq _ _ (Hp.get_eq _ _ _);clear hltq;try refine zU ?_)|(refine LS.nilQ ?_;try with_reducible intro nq hnq;try refine zU ?_))
  refine CS.iter 8 (fun i => [(5, i64 i), (2, ptr n 0), (3, ptr (n + 1) 0)]) (fun _ => (n + 1, ⟨8, bys g, 27⟩) :: (n, ⟨8, bys f, 27⟩) :: H) (fun i => ∀ q, q < i → f q = g q) (by (repeat first | exact trivial | refine And.intro rfl ?_)) (by exact zD) (fun _ h => by omega) ?_
  intro i n1 hi hn hJ
  (repeat first|refine zG ?_|(refine LS.nilO ?_;intro nq hnq hltq;try refine zU ?_)|(refine MS.new ?_;intro bq hbq hbqf;try refine zU ?_)|(refine MS.nil ?_;intro nq hnq hltq;have hlq:=hltq _ _ (Hp.get_eq _ _ _);clear hltq;try refine zU ?_)|(refine LS.nilQ ?_;try with_reducible intro nq hnq;try refine zU ?_))
  refine zI ?_ ?_<;>intro h1
  · (repeat first|refine zG ?_|(refine LS.nilO ?_;intro nq hnq hltq;try refine zU ?_)|(refine MS.new ?_;intro bq hbq hbqf;try refine zU ?_)|(refine MS.nil ?_;intro nq hnq hltq;have hlq:=hltq _ _ (Hp.get_eq _ _ _);clear hltq;try refine zU ?_)|(refine LS.nilQ ?_;try with_reducible intro nq hnq;try refine zU ?_))
    refine zI ?_ ?_<;>intro h2
    · (repeat first|refine zG ?_|(refine LS.nilO ?_;intro nq hnq hltq;try refine zU ?_)|(refine MS.new ?_;intro bq hbq hbqf;try refine zU ?_)|(refine MS.nil ?_;intro nq hnq hltq;have hlq:=hltq _ _ (Hp.get_eq _ _ _);clear hltq;try refine zU ?_)|(refine LS.nilQ ?_;try with_reducible intro nq hnq;try refine zU ?_))
      exact ⟨_, H, rfl, by exact zD, by rw [tb_false (fun q => h2 (q i (by omega)))], rfl⟩
    · (repeat first|refine zG ?_|(refine LS.nilO ?_;intro nq hnq hltq;try refine zU ?_)|(refine MS.new ?_;intro bq hbq hbqf;try refine zU ?_)|(refine MS.nil ?_;intro nq hnq hltq;have hlq:=hltq _ _ (Hp.get_eq _ _ _);clear hltq;try refine zU ?_)|(refine LS.nilQ ?_;try with_reducible intro nq hnq;try refine zU ?_))
      refine ⟨by omega, by (repeat first | exact trivial | refine And.intro rfl ?_), by exact zD, fun q hq => ?_⟩
      by_cases e : q = i
      · subst e; exact h2
      · exact hJ q (by omega)
  · have : i = 8 := by omega
    subst this
    (repeat first|refine zG ?_|(refine LS.nilO ?_;intro nq hnq hltq;try refine zU ?_)|(refine MS.new ?_;intro bq hbq hbqf;try refine zU ?_)|(refine MS.nil ?_;intro nq hnq hltq;have hlq:=hltq _ _ (Hp.get_eq _ _ _);clear hltq;try refine zU ?_)|(refine LS.nilQ ?_;try with_reducible intro nq hnq;try refine zU ?_))
    exact ⟨_, H, rfl, by exact zD, by rw [tb_true hJ], rfl⟩
end Go.Proofs.Ytdellpnmbgjofaa
