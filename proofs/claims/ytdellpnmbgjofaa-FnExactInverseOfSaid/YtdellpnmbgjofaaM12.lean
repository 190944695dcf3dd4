/- Products are linear and associative; inverses (no program in sight). -/
import Derived.Test.YtdellpnmbgjofaaBZ
namespace Go.V
set_option linter.unusedVariables false
theorem pr_eq (p : Int) (m v w : Nat → Int) (n q : Nat) : pr p m v w n q = sm (fun i => sm (fun j => v i * w j * m (64 * i + 8 * j + q)) n) n % p := by
  unfold pr pk
  show (_ + 0) % p = _
  rw [Int.add_zero]
theorem pr_basr {p : Int} {m v : Nat → Int} {n k : Nat} (hk : k < n) (q : Nat) : pr p m v (bas k) n q = sm (fun i => v i * m (64 * i + 8 * k + q)) n % p := by
  rw [pr_eq]
  refine congrArg (· % p) (sm_congr (fun i _ => ?_))
  rw [sm_one hk (fun j _ hj => by unfold bas; rw [if_neg hj]; simp)]
  unfold bas; rw [if_pos rfl, Int.mul_one]
theorem pr_basl {p : Int} {m w : Nat → Int} {n k : Nat} (hk : k < n) (q : Nat) : pr p m (bas k) w n q = sm (fun j => w j * m (64 * k + 8 * j + q)) n % p := by
  rw [pr_eq]
  rw [sm_one hk (fun i _ hi => sm_zero (fun j _ => by unfold bas; rw [if_neg hi]; simp))]
  refine congrArg (· % p) (sm_congr (fun j _ => ?_))
  unfold bas; rw [if_pos rfl, Int.one_mul]
theorem pr_linr (p : Int) (m v w : Nat → Int) (n q : Nat) : pr p m v w n q = sm (fun j => w j * pr p m v (bas j) n q) n % p := by
  rw [pr_eq, sm_swap]
  refine sm_modc (fun j hj => ?_)
  rw [pr_basr hj, emodR, sm_mul]
  refine congrArg (· % p) (sm_congr (fun i _ => ?_))
  rw [Int.mul_comm (v i), Int.mul_assoc]
theorem pr_linl (p : Int) (m v w : Nat → Int) (n q : Nat) : pr p m v w n q = sm (fun i => v i * pr p m (bas i) w n q) n % p := by
  rw [pr_eq]
  refine sm_modc (fun i hi => ?_)
  rw [pr_basl hi, emodR, sm_mul]
  refine congrArg (· % p) (sm_congr (fun j _ => ?_))
  rw [Int.mul_assoc]
theorem pr_sumr {p : Int} {m x w z : Nat → Int} {W : Nat → Nat → Int} {n : Nat} (h : ∀ b, b < n → w b % p = sm (fun k => z k * W k b) n % p) (q : Nat) : pr p m x w n q = sm (fun k => z k * pr p m x (W k) n q) n % p := by
  rw [pr_linr]
  rw [sm_modc (g := fun b => sm (fun k => z k * (W k b * pr p m x (bas b) n q)) n) (fun b hb => by
    rw [Gmodmul (h b hb) rfl, sm_mulr]
    refine congrArg (· % p) (sm_congr (fun k _ => ?_))
    rw [Int.mul_assoc])]
  rw [sm_swap]
  refine sm_modc (fun k _ => ?_)
  rw [pr_linr p m x (W k), emodR, sm_mul]
theorem pr_suml {p : Int} {m w y z : Nat → Int} {W : Nat → Nat → Int} {n : Nat} (h : ∀ b, b < n → w b % p = sm (fun k => z k * W k b) n % p) (q : Nat) : pr p m w y n q = sm (fun k => z k * pr p m (W k) y n q) n % p := by
  rw [pr_linl]
  rw [sm_modc (g := fun b => sm (fun k => z k * (W k b * pr p m (bas b) y n q)) n) (fun b hb => by
    rw [Gmodmul (h b hb) rfl, sm_mulr]
    refine congrArg (· % p) (sm_congr (fun k _ => ?_))
    rw [Int.mul_assoc])]
  rw [sm_swap]
  refine sm_modc (fun k _ => ?_)
  rw [pr_linl p m (W k), emodR, sm_mul]
theorem pr_congr {p : Int} {m v v' w w' : Nat → Int} {n : Nat} (hv : ∀ i, i < n → v i % p = v' i % p) (hw : ∀ i, i < n → w i % p = w' i % p) (q : Nat) : pr p m v w n q = pr p m v' w' n q := by
  rw [pr_eq, pr_eq]
  refine sm_modc (fun i hi => sm_modc (fun j hj => ?_))
  exact Gmodmul (Gmodmul (hv i hi) (hw j hj)) rfl
theorem pr_idem (p : Int) (m v w : Nat → Int) (n q : Nat) : pr p m v w n q % p = pr p m v w n q := by rw [pr_eq, emod_idem]
theorem pr_assoc {p : Int} {m : Nat → Int} {n : Nat} (hn : n ≤ 8) (ha : assoc p n m) (x y z : Nat → Int) {q : Nat} (hq : q < 8) : pr p m (pr p m x y n) z n q = pr p m x (pr p m y z n) n q := by
  have hbb : ∀ i j, i < n → j < n → ∀ b, pr p m (bas i) (bas j) n b = m (64 * i + 8 * j + b) % p := fun i j hi hj b => by
    rw [pr_basl hi, sm_one hj (fun k _ hk => by unfold bas; rw [if_neg hk, Int.zero_mul])]; unfold bas; rw [if_pos rfl, Int.one_mul]
  have hA : ∀ i j k, i < n → j < n → k < n → pr p m (pr p m (bas i) (bas j) n) (bas k) n q = pr p m (bas i) (pr p m (bas j) (bas k) n) n q := fun i j k hi hj hk => by
    rw [pr_congr (v' := fun x => m (64 * i + 8 * j + x)) (w' := bas k) (fun b _ => by rw [hbb i j hi hj, emod_idem]) (fun _ _ => rfl), ha i j k hi hj hk q hq]
    exact pr_congr (fun _ _ => rfl) (fun b _ => by rw [hbb j k hj hk, emod_idem]) q
  have hB : ∀ i k, i < n → k < n → pr p m (pr p m (bas i) y n) (bas k) n q = pr p m (bas i) (pr p m y (bas k) n) n q := fun i k hi hk => by
    rw [pr_suml (z := y) (W := fun j => pr p m (bas i) (bas j) n) (fun b _ => by rw [pr_idem]; exact pr_linr _ _ _ _ _ _), pr_sumr (z := y) (W := fun j => pr p m (bas j) (bas k) n) (fun b _ => by rw [pr_idem]; exact pr_linl _ _ _ _ _ _)]
    exact congrArg (· % p) (sm_congr (fun j hj => by rw [hA i j k hi hj hk]))
  have hC : ∀ k, k < n → pr p m (pr p m x y n) (bas k) n q = pr p m x (pr p m y (bas k) n) n q := fun k hk => by
    rw [pr_suml (z := x) (W := fun i => pr p m (bas i) y n) (fun b _ => by rw [pr_idem]; exact pr_linl _ _ _ _ _ _), pr_linl p m x]
    exact congrArg (· % p) (sm_congr (fun i hi => by rw [hB i k hi hk]))
  rw [pr_linr p m (pr p m x y n) z, pr_sumr (x := x) (z := z) (W := fun k => pr p m y (bas k) n) (fun b _ => by rw [pr_idem]; exact pr_linr _ _ _ _ _ _)]
  exact congrArg (· % p) (sm_congr (fun k hk => by rw [hC k hk]))
theorem sm_bas {v : Nat → Int} {n q : Nat} (hq : q < 8) (hv : ∀ x, x < 8 → n ≤ x → v x = 0) : sm (fun i => v i * bas i q) n = v q := by
  by_cases e : q < n
  · rw [sm_one e (fun i _ hi => by unfold bas; rw [if_neg (fun h => hi h.symm), Int.mul_zero])]; unfold bas; rw [if_pos rfl, Int.mul_one]
  · rw [sm_zero (fun i hi => by unfold bas; rw [if_neg (by omega), Int.mul_zero]), hv q hq (by omega)]
theorem pr_unitl {p : Int} {u m v : Nat → Int} {n : Nat} (hu : units p n u m) (hr : isRes p 8 v) (hv : ∀ x, x < 8 → n ≤ x → v x = 0) {q : Nat} (hq : q < 8) : pr p m u v n q = v q := by
  rw [pr_linr, sm_congr (g := fun i => v i * bas i q) (fun i hi => by rw [(hu i hi).1 q hq]), sm_bas hq hv, modSelf (hr q hq)]
theorem pr_unitr {p : Int} {u m v : Nat → Int} {n : Nat} (hu : units p n u m) (hr : isRes p 8 v) (hv : ∀ x, x < 8 → n ≤ x → v x = 0) {q : Nat} (hq : q < 8) : pr p m v u n q = v q := by
  rw [pr_linl, sm_congr (g := fun i => v i * bas i q) (fun i hi => by rw [(hu i hi).2 q hq]), sm_bas hq hv, modSelf (hr q hq)]
/-- One row more: the images and what leads to them, as the spec makes them. -/
noncomputable def gst (p : Int) (f : Nat → Int) (i : Nat) (g : Nat × (Nat → Nat → Int) × (Nat → Nat → Int)) : Nat × (Nat → Nat → Int) × (Nat → Nat → Int) :=
  if fsn (rdk p g.2.1 (fun x => f (8 * i + x)) g.1) 8 < 8 then
    (g.1 + 1, snc g.2.1 g.1 (pl p (fun _ => 0) (inv p (rdk p g.2.1 (fun x => f (8 * i + x)) g.1 (fsn (rdk p g.2.1 (fun x => f (8 * i + x)) g.1) 8))) (rdk p g.2.1 (fun x => f (8 * i + x)) g.1)),
      snc g.2.2 g.1 (pl p (fun _ => 0) (inv p (rdk p g.2.1 (fun x => f (8 * i + x)) g.1 (fsn (rdk p g.2.1 (fun x => f (8 * i + x)) g.1) 8))) (rdw p g.2.1 g.2.2 (fun x => f (8 * i + x)) (bas i) (-1) g.1)))
  else g
noncomputable def gsr (p : Int) (f : Nat → Int) : Nat → Nat × (Nat → Nat → Int) × (Nat → Nat → Int)
  | 0 => (0, fun _ _ => 0, fun _ _ => 0)
  | i + 1 => gst p f i (gsr p f i)
theorem gsr_ker {p : Int} {f : Nat → Int} {i m : Nat} {I S : Nat → Nat → Int} (h : gsr p f i = (m, I, S)) (h0 : ∀ q, q < 8 → rdk p I (fun x => f (8 * i + x)) m q = 0) : gsr p f (i + 1) = (m, I, S) := by
  show gst p f i (gsr p f i) = _
  rw [h]
  unfold gst
  show (if fsn (rdk p I (fun x => f (8 * i + x)) m) 8 < 8 then _ else _) = _
  rw [if_neg (by rw [fsn_all h0]; omega)]
theorem gsr_img {p : Int} {f : Nat → Int} {i m : Nat} {I S : Nat → Nat → Int} (h : gsr p f i = (m, I, S)) {U W : Nat → Int} (hU : U = rdk p I (fun x => f (8 * i + x)) m) (hW : W = rdw p I S (fun x => f (8 * i + x)) (bas i) (-1) m) (h0 : fsn U 8 < 8) :
    gsr p f (i + 1) = (m + 1, snc I m (pl p (fun _ => 0) (inv p (U (fsn U 8))) U), snc S m (pl p (fun _ => 0) (inv p (U (fsn U 8))) W)) := by
  subst hU hW
  show gst p f i (gsr p f i) = _
  rw [h]
  unfold gst
  show (if fsn (rdk p I (fun x => f (8 * i + x)) m) 8 < 8 then _ else _) = _
  rw [if_pos h0]
theorem gsr_src {p : Int} (hp : isP p = true) {f : Nat → Int} {n : Nat} (hn : n ≤ 8) (hf : isRes p 64 f) : ∀ i, i ≤ n → SRC p f n (gsr p f i).2.1 (gsr p f i).2.2 (gsr p f i).1 i
  | 0, _ => SRC.zero f n _ _
  | i + 1, hi => by
    have ih := gsr_src hp hn hf i (by omega)
    obtain ⟨m, I, S, h⟩ : ∃ m I S, gsr p f i = (m, I, S) := ⟨_, _, _, rfl⟩
    rw [h] at ih
    by_cases h0 : fsn (rdk p I (fun x => f (8 * i + x)) m) 8 < 8
    · rw [gsr_img h rfl rfl h0]
      exact SRC.img hp ih (by omega) hn hf _ _ rfl rfl h0
    · have hz : ∀ q, q < 8 → rdk p I (fun x => f (8 * i + x)) m q = 0 := fun q hq => fsn_low _ 8 q (by omega)
      rw [gsr_ker h hz]
      exact ih.ker hz
/-- What is lifted, and what is left. -/
noncomputable def lfw (p : Int) (f v : Nat → Int) (a : Nat) : Nat → Int := rdw p (gsr p f a).2.1 (gsr p f a).2.2 v (fun _ => 0) 1 (gsr p f a).1
noncomputable def lfr (p : Int) (f v : Nat → Int) (a : Nat) : Nat → Int := rdk p (gsr p f a).2.1 v (gsr p f a).1
/-- The table of w ↦ v w, row i being v e(i). -/
def lfm (p : Int) (m v : Nat → Int) (n : Nat) : Nat → Int := fun q => pr p m v (bas (q / 8)) n (q % 8)
theorem lfm_at (p : Int) (m v : Nat → Int) (n i y : Nat) (hy : y < 8) : pr p m v (bas i) n y = lfm p m v n (8 * i + y) := by
  unfold lfm; rw [show (8 * i + y) / 8 = i by omega, show (8 * i + y) % 8 = y by omega]
def lft (p : Int) (m v : Nat → Int) (n : Nat) : Nat → Int := rowsTo (fun _ => 0) (lfm p m v n) n
theorem lft_at {p : Int} {m v : Nat → Int} {n i y : Nat} (hi : i < n) (hy : y < 8) : lft p m v n (8 * i + y) = pr p m v (bas i) n y := by
  unfold lft rowsTo; rw [if_pos (by omega), ← lfm_at _ _ _ _ _ _ hy]
theorem lft_res {p : Int} (hp : 2 ≤ p) (m v : Nat → Int) (n N : Nat) : isRes p N (lft p m v n) := fun q _ => by
  unfold lft rowsTo
  split
  · exact modB _ hp
  · exact ⟨Int.le_refl _, by (try dsimp only); omega⟩
theorem lft_app {p : Int} {m v w : Nat → Int} {n : Nat} (hn : n ≤ 8) (hz : ∀ y, y < 8 → n ≤ y → w y = 0) {x : Nat} (hx : x < 8) : app p (lft p m v n) w x = pr p m v w n x := by
  unfold app
  rw [pr_linr, sm_more (n := n) hn (fun i h1 h2 => by rw [hz i h2 h1, Int.zero_mul])]
  exact congrArg (· % p) (sm_congr (fun i hi => by rw [lft_at hi hx]))
/-- w is the inverse of v. -/
structure isIv (p : Int) (u m v : Nat → Int) (n : Nat) (w : Nat → Int) : Prop where
  r : isRes p 8 w
  z : ∀ x, x < 8 → n ≤ x → w x = 0
  vw : ∀ q, q < 8 → pr p m v w n q = u q
  wv : ∀ q, q < 8 → pr p m w v n q = u q
/-- A right inverse of what has an inverse is the inverse. -/
theorem isIv.right {p : Int} {u m v w x : Nat → Int} {n : Nat} (hn : n ≤ 8) (hu : units p n u m) (ha : assoc p n m) (h : isIv p u m v n w) (hr : isRes p 8 x) (hz : ∀ y, y < 8 → n ≤ y → x y = 0) (hx : ∀ q, q < 8 → pr p m v x n q = u q) {q : Nat} (hq : q < 8) : x q = w q := by
  have e1 := pr_unitl hu hr hz hq
  rw [pr_congr (v' := pr p m w v n) (w' := x) (fun i hi => by rw [h.wv i (by omega)]) (fun _ _ => rfl), pr_assoc hn ha w v x hq, pr_congr (v' := w) (w' := u) (fun _ _ => rfl) (fun i hi => by rw [hx i (by omega)]), pr_unitr hu h.r h.z hq] at e1
  exact e1.symm
theorem isIv.cong {p : Int} {u m v w x : Nat → Int} {n : Nat} (hn : n ≤ 8) (h : isIv p u m v n w) (hx : ∀ q, q < 8 → x q = w q) : isIv p u m v n x :=
  ⟨fun q hq => by rw [hx q hq]; exact h.r q hq, fun q hq h1 => by rw [hx q hq]; exact h.z q hq h1, fun q hq => by rw [← h.vw q hq]; exact pr_congr (fun _ _ => rfl) (fun i hi => by rw [hx i (by omega)]) q, fun q hq => by rw [← h.wv q hq]; exact pr_congr (fun i hi => by rw [hx i (by omega)]) (fun _ _ => rfl) q⟩
/-- The spec's way to an inverse. -/
theorem lift_inv {p : Int} {u m v : Nat → Int} {n : Nat} (hp : isP p = true) (hn : n ≤ 8) (hu : units p n u m) (ha : assoc p n m) (hru : isRes p 8 u) :
    ((∀ q, q < 8 → lfr p (lft p m v n) u n q = 0) ∧ (∀ q, q < 8 → pr p m (lfw p (lft p m v n) u n) v n q = u q)) ↔ isIv p u m v n (lfw p (lft p m v n) u n) := by
  have hb := isP_le hp
  have hs := gsr_src hp hn (lft_res hb.1 m v n 64) n (Nat.le_refl _)
  have hz : ∀ y, y < 8 → n ≤ y → lfw p (lft p m v n) u n y = 0 := fun y hy h => rdw_sz hs (fun _ _ _ => rfl) hy h _ (Nat.le_refl _)
  have h1 : (∀ q, q < 8 → lfr p (lft p m v n) u n q = 0) → ∀ q, q < 8 → pr p m v (lfw p (lft p m v n) u n) n q = u q := fun h q hq => by
    rw [← lft_app hn hz hq]; exact lift_app hb.1 hs hru h hq
  constructor
  · rintro ⟨h2, h3⟩
    exact ⟨rdw_res hb.1 (fun _ _ => ⟨by (try dsimp only); omega, by (try dsimp only); omega⟩) _, hz, h1 h2, h3⟩
  · intro h
    refine ⟨fun q hq => lift_none hb.1 hs hru (y := lfw p (lft p m v n) u n) (fun x hx => ?_) hq, h.wv⟩
    rw [← h.vw x hx, pr_idem, pr_linr]
    exact congrArg (· % p) (sm_congr (fun i hi => by rw [lft_at hi hx]))
theorem lift_all {p : Int} {u m v w : Nat → Int} {n : Nat} (hp : isP p = true) (hn : n ≤ 8) (hu : units p n u m) (ha : assoc p n m) (hru : isRes p 8 u) (h : isIv p u m v n w) {q : Nat} (hq : q < 8) : lfw p (lft p m v n) u n q = w q := by
  have hb := isP_le hp
  have hs := gsr_src hp hn (lft_res hb.1 m v n 64) n (Nat.le_refl _)
  have hz : ∀ y, y < 8 → n ≤ y → lfw p (lft p m v n) u n y = 0 := fun y hy h => rdw_sz hs (fun _ _ _ => rfl) hy h _ (Nat.le_refl _)
  have h2 : ∀ q, q < 8 → lfr p (lft p m v n) u n q = 0 := fun q hq => lift_none hb.1 hs hru (y := w) (fun x hx => by
    rw [← h.vw x hx, pr_idem, pr_linr]
    exact congrArg (· % p) (sm_congr (fun i hi => by rw [lft_at hi hx]))) hq
  have hw : ∀ q, q < 8 → pr p m v (lfw p (lft p m v n) u n) n q = u q := fun q hq => by
    rw [← lft_app hn hz hq]; exact lift_app hb.1 hs hru h2 hq
  exact h.right hn hu ha (rdw_res hb.1 (fun _ _ => ⟨by (try dsimp only); omega, by (try dsimp only); omega⟩) _) hz hw hq
end Go.V
