/- The codes of a Hopf algebra, an algebra and a module on the program's side. -/
import Derived.Test.YtkmfdhicjaccaaaGreatJbp
import Derived.Test.YtkmfdhicjaccaaaGreatJbk
set_option linter.unusedSectionVars false
set_option linter.unusedVariables false
set_option linter.unusedSimpArgs false

namespace Go.V

variable [BW]

set_option linter.unusedSimpArgs false

set_option linter.unusedVariables false

/-- The first number that is not 0, of so many. -/
def fstz (w : Nat → Int) : Nat → Int
  | 0 => 0
  | k + 1 => if w 0 ≠ 0 then w 0 else fstz (fun i => w (i + 1)) k

theorem fstz_hit : ∀ (len : Nat) (w : Nat → Int) (i : Nat), i < len → (∀ j, j < i → w j = 0) → w i ≠ 0 → fstz w len = w i := by
  intro len
  induction len with
  | zero => intro w i hi; omega
  | succ k ih =>
    intro w i hi h0 h1
    unfold fstz
    cases i with
    | zero => rw [if_pos h1]
    | succ i =>
      rw [if_neg (fun q => q (h0 0 (by omega)))]
      exact ih (fun j => w (j + 1)) i (by omega) (fun j hj => h0 (j + 1) (by omega)) h1

theorem fstz_none : ∀ (len : Nat) (w : Nat → Int), (∀ j, j < len → w j = 0) → fstz w len = 0 := by
  intro len
  induction len with
  | zero => intro w _; rfl
  | succ k ih =>
    intro w h0
    unfold fstz
    rw [if_neg (fun q => q (h0 0 (by omega)))]
    exact ih (fun j => w (j + 1)) (fun j hj => h0 (j + 1) (by omega))

/-- So many numbers that are 0. -/
structure Zw (w : Nat → Int) (i : Nat) : Prop where
  h : ∀ j, j < i → w j = 0

/-- What is left of a tree of orders. -/
structure OTW (P : Program) (N m : Nat) (l : List Ins) (t : OT) (e : Env) (H : Hp) (n : Nat) (K : Env → Hp → Prop) : Prop where
  h : OTS P N m l t e H n K

/-- A slice of numbers. -/
def lsi (H : Hp) (v : SV) (len : Nat) (w : Nat → Int) : Prop :=
  ∃ b c K, v = .slc b 0 len c ∧ H.get b = some K ∧ K.size = len ∧ ∀ q, q < len → K.c q = .int .i64 (w q)

/-- Two numbers. -/
def twi (a b : Int) (q : Nat) : Int := if q = 0 then a else b

theorem fstz_two {Q R : Prop} : fstz (twi (cd Q) (cd R)) 2 = cd (Q ∧ R) := by
  by_cases h1 : Q
  · by_cases h2 : R
    · rw [cd_true (show Q ∧ R from ⟨h1, h2⟩)]
      exact fstz_none _ _ (fun j hj => by unfold twi; split; exact cd_true h1; exact cd_true h2)
    · rw [cd_false (show ¬(Q ∧ R) from fun q => h2 q.2), fstz_hit 2 _ 1 (by omega) (fun j hj => by (obtain rfl : j = 0 := by omega); exact cd_true h1) (by show cd R ≠ 0; rw [cd_false h2]; decide)]
      exact cd_false h2
  · rw [cd_false (show ¬(Q ∧ R) from fun q => h1 q.1), fstz_hit 2 _ 0 (by omega) (fun j hj => by omega) (by show cd Q ≠ 0; rw [cd_false h1]; decide)]
    exact cd_false h1

theorem fstz2 (a b : Int) : fstz (twi a b) 2 = if a ≠ 0 then a else b := by
  have e0 : twi a b 0 = a := rfl
  have e1 : twi a b 1 = b := rfl
  unfold fstz
  rw [e0]
  split
  · rfl
  · unfold fstz fstz
    (try dsimp only)
    rw [e1]
    split
    · rfl
    · rename_i h; exact (Classical.not_not.1 h).symm

theorem cd2 (Q R : Prop) : (if cd Q ≠ 0 then cd Q else cd R) = cd (Q ∧ R) := by rw [← fstz2, fstz_two]

end Go.V

namespace Go.Proofs.YtkmfdhicjaccaaaGreat

open Go.V

variable [BW]

set_option linter.unusedSimpArgs false

set_option linter.unusedVariables false

set_option maxHeartbeats 4000000

/-- impl.first -/
def ir29 : Cd := (.seq (.reg [⟨some 2,none,.mov (.c (.int .i64 0))⟩]) (.seq (.seq (.reg [⟨some 5,none,.mov (.t 0)⟩,⟨some 6,none,.len (.t 5)⟩,⟨some 7,none,.mov (.c (.int .i64 0))⟩]) (.block 0 (.loop (.seq (.reg [⟨some 8,none,.bin .lss (.t 7) (.t 6)⟩]) (.seq (.cond (.t 8) .skip (.exit 0)) (.seq (.block 1 (.seq (.reg [⟨some 9,none,.isl 1 (.t 5) (.t 7)⟩,⟨some 10,none,.ld none (.t 9)⟩,⟨some 4,none,.mov (.t 10)⟩]) (.seq (.reg [⟨some 11,none,.mov (.t 4)⟩,⟨some 12,none,.bin .neq (.t 11) (.c (.int .i64 0))⟩]) (.cond (.t 12) (.seq (.reg [⟨some 13,none,.mov (.t 4)⟩,⟨some 2,none,.mov (.t 13)⟩]) .ret) .skip)))) (.reg [⟨some 14,none,.bin .add (.t 7) (.c (.int .i64 1))⟩,⟨some 7,none,.mov (.t 14)⟩]))))))) (.seq (.reg [⟨some 2,none,.mov (.c (.int .i64 0))⟩]) .ret)))

set_option maxRecDepth 100000 in
theorem tr29 : trFn Tryz.prog Tryz.f29 = some (15, ir29, [.tmp 2]) := by kernel_rfl

theorem impl_first (v : SV) (len : Nat) (hl : len ≤ 4000000) (w : Nat → Int) (H : Hp) (n : Nat) (hv : lsi H v len w) :
    FnS Tryz.prog 29 [.s v] H n (fun r H' _ => r = i64 (fstz w len) ∧ H' = H) := by
  obtain ⟨b, c, K, rfl, hb, hs, hc⟩ := hv
  refine FnS.of_body Tryz.func29 tr29 (by simp) (fun hf => ?_)
  dsimp only [argEnv]
  unfold ir29
  have hbn := getlt hf hb
  (refine zG ?_)
  refine CS.iter len (fun i => [(7, i64 i), (6, i64 len), (5, .s (.slc b 0 len c))]) (fun _ => H) (fun i => Zw w i) (by (repeat first | exact trivial | refine And.intro rfl ?_)) (by exact zD) ⟨fun j hj => by omega⟩ ?_
  intro i n1 hi hn1 hJ
  (refine zG ?_)
  refine zI ?_ ?_<;>intro h1
  · have hci := hc i (by omega)
    rw [show i = 0 + i * 1 by omega] at hci
    (refine zG ?_)
    refine zI ?_ ?_<;>intro h2
    · (refine zG ?_)
      exact ⟨_, H, by rw [fstz_hit len w i (by omega) hJ.h (by simpa using h2), show 0 + i * 1 = i by omega], by exact zD, rfl, rfl⟩
    · (refine zG ?_)
      refine ⟨by omega, by (repeat first | exact trivial | refine And.intro rfl ?_), by exact zD, ⟨fun j hj => ?_⟩⟩
      by_cases e : j = i
      · subst e; simpa using h2
      · exact hJ.h j (by omega)
  · obtain rfl : i = len := by omega
    (refine zG ?_)
    exact ⟨_, H, by rw [fstz_none i w hJ.h], by exact zD, rfl, rfl⟩

theorem impl_first2 (b c : Nat) (x y : Int) (K : Blk) (H : Hp) (n : Nat) (hb : H.get b = some K) (hs : K.size = 2) (h0 : K.c 0 = .int .i64 x) (h1 : K.c 1 = .int .i64 y) :
    FnS Tryz.prog 29 [.s (.slc b 0 2 c)] H n (fun r H' _ => r = i64 (if x ≠ 0 then x else y) ∧ H' = H) := by
  rw [← fstz2]
  exact impl_first _ 2 (by omega) (twi x y) H n ⟨b, c, K, rfl, hb, hs, fun q hq => by
    rcases (show q = 0 ∨ q = 1 by omega) with rfl | rfl
    · exact h0
    · exact h1⟩

end Go.Proofs.YtkmfdhicjaccaaaGreat
