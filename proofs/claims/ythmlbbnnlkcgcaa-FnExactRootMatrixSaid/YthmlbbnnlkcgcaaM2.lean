/- Square tables that are filled row after row. -/
import Derived.Test.YthmlbbnnlkcgcaaM1
namespace Go.V
set_option linter.unusedSimpArgs false
set_option linter.unusedVariables false

/-- The table of g, n wide, of which i rows are filled and j places of the next. -/
def tab (g : Nat → Nat → Int) (n i j : Nat) : Nat → Int := fun q => if (q / 8 < i ∧ q % 8 < n) ∨ (q / 8 = i ∧ q % 8 < j) then g (q / 8) (q % 8) else 0

theorem tab_put (g : Nat → Nat → Int) (n i j : Nat) (hj : j < 8) (q : Nat) (hq : q < 64) : put1 (bys (tab g n i j)) (0 + i * 8 + j * 1) (.int .u8 (g i j)) q = bys (tab g n i (j + 1)) q := by
  unfold put1 bys tab
  by_cases e : q = 0 + i * 8 + j * 1
  · have h1 : q / 8 = i := by omega
    have h2 : q % 8 = j := by omega
    rw [if_pos e]
    simp [h1, h2]
  · rw [if_neg e]
    have : ¬ (q / 8 = i ∧ q % 8 = j) := by omega
    congr 1
    by_cases h : (q / 8 < i ∧ q % 8 < n) ∨ (q / 8 = i ∧ q % 8 < j)
    · rw [if_pos h, if_pos (by omega)]
    · rw [if_neg h, if_neg (by omega)]

theorem tab_row (g : Nat → Nat → Int) (n i : Nat) : tab g n i n = tab g n (i + 1) 0 := by
  funext q
  unfold tab
  by_cases h : (q / 8 < i ∧ q % 8 < n) ∨ (q / 8 = i ∧ q % 8 < n)
  · rw [if_pos h, if_pos (by omega)]
  · rw [if_neg h, if_neg (by omega)]

theorem tab_zero (g : Nat → Nat → Int) (n q : Nat) : tab g n 0 0 q = 0 := by
  unfold tab
  rw [if_neg (by omega)]

/-! ### Matrices of roots -/
noncomputable def rt (p w n : Int) (i j : Nat) : Int := inv p n * pw p (inv p w) (i * j) % p

def rootOk (p n w : Int) : Prop := isP p = true ∧ (1 ≤ n ∧ n ≤ 8) ∧ (1 ≤ w ∧ w ≤ p - 1) ∧ isOrd p w n.toNat
/-- What RootMatrix returns. -/
noncomputable def rootR (p n w : Int) : AV := open Classical in
  if rootOk p n w then .tup [.arr 64 (bys (tab (rt p w n) n.toNat n.toNat 0)), .s (.int .i64 0)] else .tup [.arr 64 (bys fun _ => 0), .s (.int .i64 2)]

theorem rootR_1 {p n w : Int} (h : ¬ rootOk p n w) : rootR p n w = .tup [.arr 64 (bys fun _ => 0), .s (.int .i64 2)] := by unfold rootR; rw [if_neg h]
theorem rootR_2 {p n w : Int} (h : rootOk p n w) : rootR p n w = .tup [.arr 64 (bys (tab (rt p w n) n.toNat n.toNat 0)), .s (.int .i64 0)] := by unfold rootR; rw [if_pos h]
theorem rootR_form (p n w : Int) : ∃ f c, rootR p n w = .tup [.arr 64 (bys f), .s (.int .i64 c)] := by
  unfold rootR
  split <;> exact ⟨_, _, rfl⟩
end Go.V
