/- Products are linear and associative; inverses (no program in sight). -/
import Derived.Test.YtmkegkpabifpfaaGreatJaw
import Derived.Test.YtmkegkpabifpfaaGreatJak
namespace Go.V
set_option linter.unusedVariables false
theorem pr_eq (p : Int) (m v w : Nat → Int) (n q : Nat) : pr p m v w n q = sm (fun i => sm (fun j => v i * w j * m (64 * i + 8 * j + q)) n) n % p := by
  unfold pr pk
  show (_ + 0) % p = _
  rw [Int.add_zero]
theorem pr_basr {p : Int} {m v : Nat → Int} {n k : Nat} (hk : k < n) (q : Nat) : pr p m v (bas k) n q = sm (fun i => v i * m (64 * i + 8 * k + q)) n % p := by
  rw [pr_eq]
  refine congrArg (· % p) (sm_congr (fun i _ => ?_))
  rw [sm_one hk (fun j _ hj => by unfold bas; rw [if_neg hj]; simp)]
  unfold bas; rw [if_pos rfl, Int.mul_one]
theorem pr_basl {p : Int} {m w : Nat → Int} {n k : Nat} (hk : k < n) (q : Nat) : pr p m (bas k) w n q = sm (fun j => w j * m (64 * k + 8 * j + q)) n % p := by
  rw [pr_eq]
  rw [sm_one hk (fun i _ hi => sm_zero (fun j _ => by unfold bas; rw [if_neg hi]; simp))]
  refine congrArg (· % p) (sm_congr (fun j _ => ?_))
  unfold bas; rw [if_pos rfl, Int.one_mul]
theorem pr_linr (p : Int) (m v w : Nat → Int) (n q : Nat) : pr p m v w n q = sm (fun j => w j * pr p m v (bas j) n q) n % p := by
  rw [pr_eq, sm_swap]
  refine sm_modc (fun j hj => ?_)
  rw [pr_basr hj, emodR, sm_mul]
  refine congrArg (· % p) (sm_congr (fun i _ => ?_))
  rw [Int.mul_comm (v i), Int.mul_assoc]
theorem pr_linl (p : Int) (m v w : Nat → Int) (n q : Nat) : pr p m v w n q = sm (fun i => v i * pr p m (bas i) w n q) n % p := by
  rw [pr_eq]
  refine sm_modc (fun i hi => ?_)
  rw [pr_basl hi, emodR, sm_mul]
  refine congrArg (· % p) (sm_congr (fun j _ => ?_))
  rw [Int.mul_assoc]
theorem pr_sumr {p : Int} {m x w z : Nat → Int} {W : Nat → Nat → Int} {n : Nat} (h : ∀ b, b < n → w b % p = sm (fun k => z k * W k b) n % p) (q : Nat) : pr p m x w n q = sm (fun k => z k * pr p m x (W k) n q) n % p := by
  rw [pr_linr]
  rw [sm_modc (g := fun b => sm (fun k => z k * (W k b * pr p m x (bas b) n q)) n) (fun b hb => by
    rw [Gmodmul (h b hb) rfl, sm_mulr]
    refine congrArg (· % p) (sm_congr (fun k _ => ?_))
    rw [Int.mul_assoc])]
  rw [sm_swap]
  refine sm_modc (fun k _ => ?_)
  rw [pr_linr p m x (W k), emodR, sm_mul]
theorem pr_suml {p : Int} {m w y z : Nat → Int} {W : Nat → Nat → Int} {n : Nat} (h : ∀ b, b < n → w b % p = sm (fun k => z k * W k b) n % p) (q : Nat) : pr p m w y n q = sm (fun k => z k * pr p m (W k) y n q) n % p := by
  rw [pr_linl]
  rw [sm_modc (g := fun b => sm (fun k => z k * (W k b * pr p m (bas b) y n q)) n) (fun b hb => by
    rw [Gmodmul (h b hb) rfl, sm_mulr]
    refine congrArg (· % p) (sm_congr (fun k _ => ?_))
    rw [Int.mul_assoc])]
  rw [sm_swap]
  refine sm_modc (fun k _ => ?_)
  rw [pr_linl p m (W k), emodR, sm_mul]
theorem pr_congr {p : Int} {m v v' w w' : Nat → Int} {n : Nat} (hv : ∀ i, i < n → v i % p = v' i % p) (hw : ∀ i, i < n → w i % p = w' i % p) (q : Nat) : pr p m v w n q = pr p m v' w' n q := by
  rw [pr_eq, pr_eq]
  refine sm_modc (fun i hi => sm_modc (fun j hj => ?_))
  exact Gmodmul (Gmodmul (hv i hi) (hw j hj)) rfl
theorem pr_idem (p : Int) (m v w : Nat → Int) (n q : Nat) : pr p m v w n q % p = pr p m v w n q := by rw [pr_eq, emod_idem]
theorem pr_assoc {p : Int} {m : Nat → Int} {n : Nat} (hn : n ≤ 8) (ha : assoc p n m) (x y z : Nat → Int) {q : Nat} (hq : q < 8) : pr p m (pr p m x y n) z n q = pr p m x (pr p m y z n) n q := by
  have hbb : ∀ i j, i < n → j < n → ∀ b, pr p m (bas i) (bas j) n b = m (64 * i + 8 * j + b) % p := fun i j hi hj b => by
    rw [pr_basl hi, sm_one hj (fun k _ hk => by unfold bas; rw [if_neg hk, Int.zero_mul])]; unfold bas; rw [if_pos rfl, Int.one_mul]
  have hA : ∀ i j k, i < n → j < n → k < n → pr p m (pr p m (bas i) (bas j) n) (bas k) n q = pr p m (bas i) (pr p m (bas j) (bas k) n) n q := fun i j k hi hj hk => by
    rw [pr_congr (v' := fun x => m (64 * i + 8 * j + x)) (w' := bas k) (fun b _ => by rw [hbb i j hi hj, emod_idem]) (fun _ _ => rfl), ha i j k hi hj hk q hq]
    exact pr_congr (fun _ _ => rfl) (fun b _ => by rw [hbb j k hj hk, emod_idem]) q
  have hB : ∀ i k, i < n → k < n → pr p m (pr p m (bas i) y n) (bas k) n q = pr p m (bas i) (pr p m y (bas k) n) n q := fun i k hi hk => by
    rw [pr_suml (z := y) (W := fun j => pr p m (bas i) (bas j) n) (fun b _ => by rw [pr_idem]; exact pr_linr _ _ _ _ _ _), pr_sumr (z := y) (W := fun j => pr p m (bas j) (bas k) n) (fun b _ => by rw [pr_idem]; exact pr_linl _ _ _ _ _ _)]
    exact congrArg (· % p) (sm_congr (fun j hj => by rw [hA i j k hi hj hk]))
  have hC : ∀ k, k < n → pr p m (pr p m x y n) (bas k) n q = pr p m x (pr p m y (bas k) n) n q := fun k hk => by
    rw [pr_suml (z := x) (W := fun i => pr p m (bas i) y n) (fun b _ => by rw [pr_idem]; exact pr_linl _ _ _ _ _ _), pr_linl p m x]
    exact congrArg (· % p) (sm_congr (fun i hi => by rw [hB i k hi hk]))
  rw [pr_linr p m (pr p m x y n) z, pr_sumr (x := x) (z := z) (W := fun k => pr p m y (bas k) n) (fun b _ => by rw [pr_idem]; exact pr_linr _ _ _ _ _ _)]
  exact congrArg (· % p) (sm_congr (fun k hk => by rw [hC k hk]))
theorem sm_bas {v : Nat → Int} {n q : Nat} (hq : q < 8) (hv : ∀ x, x < 8 → n ≤ x → v x = 0) : sm (fun i => v i * bas i q) n = v q := by
  by_cases e : q < n
  · rw [sm_one e (fun i _ hi => by unfold bas; rw [if_neg (fun h => hi h.symm), Int.mul_zero])]; unfold bas; rw [if_pos rfl, Int.mul_one]
  · rw [sm_zero (fun i hi => by unfold bas; rw [if_neg (by omega), Int.mul_zero]), hv q hq (by omega)]
theorem pr_unitl {p : Int} {u m v : Nat → Int} {n : Nat} (hu : units p n u m) (hr : isRes p 8 v) (hv : ∀ x, x < 8 → n ≤ x → v x = 0) {q : Nat} (hq : q < 8) : pr p m u v n q = v q := by
  rw [pr_linr, sm_congr (g := fun i => v i * bas i q) (fun i hi => by rw [(hu i hi).1 q hq]), sm_bas hq hv, modSelf (hr q hq)]
theorem pr_unitr {p : Int} {u m v : Nat → Int} {n : Nat} (hu : units p n u m) (hr : isRes p 8 v) (hv : ∀ x, x < 8 → n ≤ x → v x = 0) {q : Nat} (hq : q < 8) : pr p m v u n q = v q := by
  rw [pr_linl, sm_congr (g := fun i => v i * bas i q) (fun i hi => by rw [(hu i hi).2 q hq]), sm_bas hq hv, modSelf (hr q hq)]
/-- One row more: the images and what leads to them, as the spec makes them. -/
noncomputable def gst (p : Int) (f : Nat → Int) (i : Nat) (g : Nat × (Nat → Nat → Int) × (Nat → Nat → Int)) : Nat × (Nat → Nat → Int) × (Nat → Nat → Int) :=
  if fsn (rdk p g.2.1 (fun x => f (8 * i + x)) g.1) 8 < 8 then
    (g.1 + 1, snc g.2.1 g.1 (pl p (fun _ => 0) (inv p (rdk p g.2.1 (fun x => f (8 * i + x)) g.1 (fsn (rdk p g.2.1 (fun x => f (8 * i + x)) g.1) 8))) (rdk p g.2.1 (fun x => f (8 * i + x)) g.1)),
      snc g.2.2 g.1 (pl p (fun _ => 0) (inv p (rdk p g.2.1 (fun x => f (8 * i + x)) g.1 (fsn (rdk p g.2.1 (fun x => f (8 * i + x)) g.1) 8))) (rdw p g.2.1 g.2.2 (fun x => f (8 * i + x)) (bas i) (-1) g.1)))
  else g
noncomputable def gsr (p : Int) (f : Nat → Int) : Nat → Nat × (Nat → Nat → Int) × (Nat → Nat → Int)
  | 0 => (0, fun _ _ => 0, fun _ _ => 0)
  | i + 1 => gst p f i (gsr p f i)
theorem gsr_ker {p : Int} {f : Nat → Int} {i m : Nat} {I S : Nat → Nat → Int} (h : gsr p f i = (m, I, S)) (h0 : ∀ q, q < 8 → rdk p I (fun x => f (8 * i + x)) m q = 0) : gsr p f (i + 1) = (m, I, S) := by
  show gst p f i (gsr p f i) = _
  rw [h]
  unfold gst
  show (if fsn (rdk p I (fun x => f (8 * i + x)) m) 8 < 8 then _ else _) = _
  rw [if_neg (by rw [fsn_all h0]; omega)]
theorem gsr_img {p : Int} {f : Nat → Int} {i m : Nat} {I S : Nat → Nat → Int} (h : gsr p f i = (m, I, S)) {U W : Nat → Int} (hU : U = rdk p I (fun x => f (8 * i + x)) m) (hW : W = rdw p I S (fun x => f (8 * i + x)) (bas i) (-1) m) (h0 : fsn U 8 < 8) :
    gsr p f (i + 1) = (m + 1, snc I m (pl p (fun _ => 0) (inv p (U (fsn U 8))) U), snc S m (pl p (fun _ => 0) (inv p (U (fsn U 8))) W)) := by
  subst hU hW
  show gst p f i (gsr p f i) = _
  rw [h]
  unfold gst
  show (if fsn (rdk p I (fun x => f (8 * i + x)) m) 8 < 8 then _ else _) = _
  rw [if_pos h0]
theorem gsr_src {p : Int} (hp : isP p = true) {f : Nat → Int} {n : Nat} (hn : n ≤ 8) (hf : isRes p 64 f) : ∀ i, i ≤ n → SRC p f n (gsr p f i).2.1 (gsr p f i).2.2 (gsr p f i).1 i
  | 0, _ => SRC.zero f n _ _
  | i + 1, hi => by
    have ih := gsr_src hp hn hf i (by omega)
    obtain ⟨m, I, S, h⟩ : ∃ m I S, gsr p f i = (m, I, S) := ⟨_, _, _, rfl⟩
    rw [h] at ih
    by_cases h0 : fsn (rdk p I (fun x => f (8 * i + x)) m) 8 < 8
    · rw [gsr_img h rfl rfl h0]
      exact SRC.img hp ih (by omega) hn hf _ _ rfl rfl h0
    · have hz : ∀ q, q < 8 → rdk p I (fun x => f (8 * i + x)) m q = 0 := fun q hq => fsn_low _ 8 q (by omega)
      rw [gsr_ker h hz]
      exact ih.ker hz
/-- What is lifted, and what is left. -/
noncomputable def lfw (p : Int) (f v : Nat → Int) (a : Nat) : Nat → Int := rdw p (gsr p f a).2.1 (gsr p f a).2.2 v (fun _ => 0) 1 (gsr p f a).1
noncomputable def lfr (p : Int) (f v : Nat → Int) (a : Nat) : Nat → Int := rdk p (gsr p f a).2.1 v (gsr p f a).1
/-- The table of w ↦ v w, row i being v e(i). -/
def lfm (p : Int) (m v : Nat → Int) (n : Nat) : Nat → Int := fun q => pr p m v (bas (q / 8)) n (q % 8)
theorem lfm_at (p : Int) (m v : Nat → Int) (n i y : Nat) (hy : y < 8) : pr p m v (bas i) n y = lfm p m v n (8 * i + y) := by
  unfold lfm; rw [show (8 * i + y) / 8 = i by omega, show (8 * i + y) % 8 = y by omega]
def lft (p : Int) (m v : Nat → Int) (n : Nat) : Nat → Int := rowsTo (fun _ => 0) (lfm p m v n) n
theorem lft_at {p : Int} {m v : Nat → Int} {n i y : Nat} (hi : i < n) (hy : y < 8) : lft p m v n (8 * i + y) = pr p m v (bas i) n y := by
  unfold lft rowsTo; rw [if_pos (by omega), ← lfm_at _ _ _ _ _ _ hy]
theorem lft_res {p : Int} (hp : 2 ≤ p) (m v : Nat → Int) (n N : Nat) : isRes p N (lft p m v n) := fun q _ => by
  unfold lft rowsTo
  split
  · exact modB _ hp
  · exact ⟨Int.le_refl _, by (try dsimp only); omega⟩
theorem lft_app {p : Int} {m v w : Nat → Int} {n : Nat} (hn : n ≤ 8) (hz : ∀ y, y < 8 → n ≤ y → w y = 0) {x : Nat} (hx : x < 8) : app p (lft p m v n) w x = pr p m v w n x := by
  unfold app
  rw [pr_linr, sm_more (n := n) hn (fun i h1 h2 => by rw [hz i h2 h1, Int.zero_mul])]
  exact congrArg (· % p) (sm_congr (fun i hi => by rw [lft_at hi hx]))
/-- w is the inverse of v. -/
structure isIv (p : Int) (u m v : Nat → Int) (n : Nat) (w : Nat → Int) : Prop where
  r : isRes p 8 w
  z : ∀ x, x < 8 → n ≤ x → w x = 0
  vw : ∀ q, q < 8 → pr p m v w n q = u q
  wv : ∀ q, q < 8 → pr p m w v n q = u q
/-- A right inverse of what has an inverse is the inverse. -/
theorem isIv.right {p : Int} {u m v w x : Nat → Int} {n : Nat} (hn : n ≤ 8) (hu : units p n u m) (ha : assoc p n m) (h : isIv p u m v n w) (hr : isRes p 8 x) (hz : ∀ y, y < 8 → n ≤ y → x y = 0) (hx : ∀ q, q < 8 → pr p m v x n q = u q) {q : Nat} (hq : q < 8) : x q = w q := by
  have e1 := pr_unitl hu hr hz hq
  rw [pr_congr (v' := pr p m w v n) (w' := x) (fun i hi => by rw [h.wv i (by omega)]) (fun _ _ => rfl), pr_assoc hn ha w v x hq, pr_congr (v' := w) (w' := u) (fun _ _ => rfl) (fun i hi => by rw [hx i (by omega)]), pr_unitr hu h.r h.z hq] at e1
  exact e1.symm
theorem isIv.cong {p : Int} {u m v w x : Nat → Int} {n : Nat} (hn : n ≤ 8) (h : isIv p u m v n w) (hx : ∀ q, q < 8 → x q = w q) : isIv p u m v n x :=
  ⟨fun q hq => by rw [hx q hq]; exact h.r q hq, fun q hq h1 => by rw [hx q hq]; exact h.z q hq h1, fun q hq => by rw [← h.vw q hq]; exact pr_congr (fun _ _ => rfl) (fun i hi => by rw [hx i (by omega)]) q, fun q hq => by rw [← h.wv q hq]; exact pr_congr (fun i hi => by rw [hx i (by omega)]) (fun _ _ => rfl) q⟩
/-- The spec's way to an inverse. -/
theorem lift_inv {p : Int} {u m v : Nat → Int} {n : Nat} (hp : isP p = true) (hn : n ≤ 8) (hu : units p n u m) (ha : assoc p n m) (hru : isRes p 8 u) :
    ((∀ q, q < 8 → lfr p (lft p m v n) u n q = 0) ∧ (∀ q, q < 8 → pr p m (lfw p (lft p m v n) u n) v n q = u q)) ↔ isIv p u m v n (lfw p (lft p m v n) u n) := by
  have hb := isP_le hp
  have hs := gsr_src hp hn (lft_res hb.1 m v n 64) n (Nat.le_refl _)
  have hz : ∀ y, y < 8 → n ≤ y → lfw p (lft p m v n) u n y = 0 := fun y hy h => rdw_sz hs (fun _ _ _ => rfl) hy h _ (Nat.le_refl _)
  have h1 : (∀ q, q < 8 → lfr p (lft p m v n) u n q = 0) → ∀ q, q < 8 → pr p m v (lfw p (lft p m v n) u n) n q = u q := fun h q hq => by
    rw [← lft_app hn hz hq]; exact lift_app hb.1 hs hru h hq
  constructor
  · rintro ⟨h2, h3⟩
    exact ⟨rdw_res hb.1 (fun _ _ => ⟨by (try dsimp only); omega, by (try dsimp only); omega⟩) _, hz, h1 h2, h3⟩
  · intro h
    refine ⟨fun q hq => lift_none hb.1 hs hru (y := lfw p (lft p m v n) u n) (fun x hx => ?_) hq, h.wv⟩
    rw [← h.vw x hx, pr_idem, pr_linr]
    exact congrArg (· % p) (sm_congr (fun i hi => by rw [lft_at hi hx]))
theorem lift_all {p : Int} {u m v w : Nat → Int} {n : Nat} (hp : isP p = true) (hn : n ≤ 8) (hu : units p n u m) (ha : assoc p n m) (hru : isRes p 8 u) (h : isIv p u m v n w) {q : Nat} (hq : q < 8) : lfw p (lft p m v n) u n q = w q := by
  have hb := isP_le hp
  have hs := gsr_src hp hn (lft_res hb.1 m v n 64) n (Nat.le_refl _)
  have hz : ∀ y, y < 8 → n ≤ y → lfw p (lft p m v n) u n y = 0 := fun y hy h => rdw_sz hs (fun _ _ _ => rfl) hy h _ (Nat.le_refl _)
  have h2 : ∀ q, q < 8 → lfr p (lft p m v n) u n q = 0 := fun q hq => lift_none hb.1 hs hru (y := w) (fun x hx => by
    rw [← h.vw x hx, pr_idem, pr_linr]
    exact congrArg (· % p) (sm_congr (fun i hi => by rw [lft_at hi hx]))) hq
  have hw : ∀ q, q < 8 → pr p m v (lfw p (lft p m v n) u n) n q = u q := fun q hq => by
    rw [← lft_app hn hz hq]; exact lift_app hb.1 hs hru h2 hq
  exact h.right hn hu ha (rdw_res hb.1 (fun _ _ => ⟨by (try dsimp only); omega, by (try dsimp only); omega⟩) _) hz hw hq
end Go.V

/- Left tables, first places (the spec's). -/
namespace Go.V
structure Fx (Q : Prop) : Prop where
  out : Q
end Go.V
namespace Go.Proofs.YtmkegkpabifpfaaGreat
open Go.V
set_option linter.unusedSimpArgs false
set_option linter.unusedVariables false
set_option maxHeartbeats 4000000

/-- spec.l01First -/
def ir46 : Cd := (.seq (.reg [⟨some 1,none,.box 34 (.t 0)⟩,⟨some 2,none,.mov (.c (.int .i64 0))⟩]) (.seq (.reg [⟨some 3,none,.mov (.c (.int .i64 0))⟩]) (.seq (.block 0 (.loop (.seq (.seq (.reg [⟨some 4,none,.mov (.t 3)⟩,⟨some 5,none,.bin .lss (.t 4) (.c (.int .i64 8))⟩,⟨some 6,none,.mov (.t 5)⟩,⟨some 7,(some (6,true)),.mov (.t 3)⟩,⟨some 8,(some (6,true)),.ia 8 1 (.t 1) (.t 7)⟩,⟨some 9,(some (6,true)),.ld none (.t 8)⟩,⟨some 10,(some (6,true)),.bin .eql (.t 9) (.c (.int .u8 0))⟩,⟨some 11,none,.pick (.t 6) (.t 10) (.c (.bool false))⟩]) (.cond (.t 11) .skip (.exit 0))) (.block 1 (.reg [⟨some 12,none,.mov (.t 3)⟩,⟨some 13,none,.bin .add (.t 12) (.c (.int .i64 1))⟩,⟨some 3,none,.mov (.t 13)⟩]))))) (.seq (.reg [⟨some 14,none,.mov (.t 3)⟩,⟨some 2,none,.mov (.t 14)⟩]) .ret))))
set_option maxRecDepth 100000 in
theorem tr46 : trFn Tryz.prog Tryz.f46 = some (15, ir46, [.tmp 2]) := by kernel_rfl

theorem spec_l01First (v : Nat → Int) (H : Hp) (n : Nat) :
    FnS Tryz.prog 46 [.arr 8 (bys v)] H n (fun r H' _ => r = i64 (fsn v 8) ∧ H' = H) := by
  refine FnS.of_body Tryz.func46 tr46 (by simp) (fun hf => ?_)
  dsimp only [argEnv]
  unfold ir46
  (refine zG ?_)
  refine CS.iter 8 (fun i => [(3, i64 i), (1, ptr n 0)]) (fun i => (n, ⟨8, bys v, 34⟩) :: H) (fun i => Fx (∀ j, j < i → v j = 0)) (by (repeat first | exact trivial | refine And.intro rfl ?_)) (Drops.refl _ _) ⟨fun j hj => by omega⟩ ?_
  intro i n2 hi hn hJ
  (refine zG ?_)
  by_cases h2 : i < 8
  · rw [show decide ((i : Int) < 8) = true from decide_eq_true (by omega)]
    have hv1 : (bys v) i = .int .u8 (v i) := rfl
    (refine zG ?_)
    by_cases h3 : v i = 0
    · rw [show (v i == 0) = true by simpa using h3]
      (refine zG ?_)
      exact ⟨by omega, by (repeat first | exact trivial | refine And.intro rfl ?_), Drops.refl _ _, ⟨fun j hj => if e : j = i then by subst e; exact h3 else hJ.out j (by omega)⟩⟩
    · rw [show (v i == 0) = false by simpa using h3]
      (refine zG ?_)
      exact ⟨i64 i, H, rfl, by exact zD, by rw [fsn_eq h2 hJ.out h3], rfl⟩
  · obtain rfl : i = 8 := by omega
    rw [show decide (((8 : Nat) : Int) < 8) = false by decide]
    (refine zG ?_)
    exact ⟨i64 8, H, rfl, by exact zD, by rw [fsn_all hJ.out]; rfl, rfl⟩

end Go.Proofs.YtmkegkpabifpfaaGreat

/- The spec's reduction of the rows of a table, one by one. -/
namespace Go.V
set_option linter.unusedSimpArgs false
set_option linter.unusedVariables false
/-- A slice of m vectors, which lie in the block b. -/
def VL (H : Hp) (v : SV) (m : Nat) (I : Nat → Nat → Int) (b : Nat) : Prop :=
  ∃ o cap k, v = .slc b o m cap ∧ H.get b = some k ∧ o + cap * 8 ≤ k.size ∧ m ≤ cap ∧ ∀ i x, i < m → x < 8 → k.c (o + (i * 8 + x)) = .int .u8 (I i x)
theorem VL.keep {H H' : Hp} {v : SV} {m : Nat} {I : Nat → Nat → Int} {b : Nat} (h : VL H v m I b) (hg : H'.get b = H.get b) : VL H' v m I b := by
  obtain ⟨o, cap, k, h1, h2, h3⟩ := h
  exact ⟨o, cap, k, h1, hg.trans h2, h3⟩
theorem VL.slice {H : Hp} {v : SV} {m : Nat} {I : Nat → Nat → Int} {b : Nat} (h : VL H v m I b) : ∃ cap, sliceV H 8 v m cap (fun i => .int .u8 (I (i / 8) (i % 8))) := by
  obtain ⟨o, cap, k, h1, h2, h3, h4, h5⟩ := h
  refine ⟨cap, .inr ⟨b, o, k, h1, h2, h3, h4, fun i hi => ?_⟩⟩
  show _ = SV.int IntKind.u8 (I (i / 8) (i % 8))
  rw [← h5 (i / 8) (i % 8) (by omega) (by omega), show i / 8 * 8 + i % 8 = i by omega]
section
variable {P : Program} {N mm : Nat} {e : Env} {H : Hp} {n : Nat} {l : List Ins} {d : Option Nat} {K : Env → Hp → Nat → Prop}
/-- One more vector. -/
theorem RS.appV {t : TypeId} {x y : X} {v : SV} {m b b2 : Nat} {I : Nat → Nat → Int} {w : Nat → Int} {k2 : Blk} {z : Zs}
    (hx : x.ev e = some (.s v)) (hy : y.ev e = some (.s (.slc b2 0 1 1))) (hV : VL H v m I b) (hb2 : H.get b2 = some k2) (hs2 : k2.size = 8) (hc2 : ∀ q, q < 8 → k2.c q = .int .u8 (w q)) (hm : m ≤ 1000) (hf : H.get n = none) (hbn : b < n)
    (h : ∀ v' b' H' n', VL H' v' (m + 1) (snc I m w) b' → (b' = b ∨ b' = n) → b' < n' → n ≤ n' → n' ≤ n + 1 → (∀ x, x ≠ b' → H'.get x = H.get x) → LS P N mm (.seq K) l (putD d (.s v') e) H' n') :
    LS P N mm (.seq K) (⟨d, none, .app t 8 8 z x y⟩ :: l) e H n := by
  obtain ⟨o, cap, k, rfl, hk, ho, hmc, hc⟩ := hV
  refine RS.app (len2 := 1) (cap2 := 1) (c := fun i => .int .u8 (I (i / 8) (i % 8))) (c2 := fun i => .int .u8 (w i)) hx hy (.inr ⟨b, o, k, rfl, hk, ho, hmc, fun i hi => ?_⟩) (.inr ⟨b2, 0, k2, rfl, hb2, by omega, Nat.le_refl _, fun i hi => by rw [Nat.zero_add]; exact hc2 i (by omega)⟩) (by omega) (by omega) (fun hle => ⟨fun b' o' k' he hk' => ?_, fun he => by cases he⟩) (fun hlt cap' hcap => ?_)
  · show _ = SV.int IntKind.u8 (I (i / 8) (i % 8))
    rw [← hc (i / 8) (i % 8) (by omega) (by omega), show i / 8 * 8 + i % 8 = i by omega]
  · cases he
    rw [hk] at hk'
    cases hk'
    refine h _ b _ n ⟨o, cap, _, rfl, Hp.get_set_self _ hk, ho, hle, fun i x hi hx => ?_⟩ (.inl rfl) hbn (Nat.le_refl _) (by omega) (fun x hx => Hp.get_set_other _ (fun q => hx q.symm))
    (try dsimp only)
    unfold splice snc
    by_cases e1 : i = m
    · subst e1
      rw [if_pos (by omega), if_pos rfl]
      congr 2; omega
    · rw [if_neg (by omega), if_neg e1]
      exact hc i x (by omega) hx
  · refine h _ n _ (n + 1) ⟨0, cap', _, rfl, Hp.get_eq _ _ _, by (try dsimp only); omega, hcap, fun i x hi hx => ?_⟩ (.inr rfl) (by omega) (by omega) (by omega) (fun x hx => Hp.get_ne _ _ (fun q => hx q.symm))
    (try dsimp only)
    unfold joinC snc
    rw [Nat.zero_add]
    by_cases e1 : i = m
    · subst e1
      rw [if_pos (by omega), if_neg (by omega), if_pos rfl]
      congr 2; omega
    · rw [if_pos (by omega), if_pos (by omega), if_neg e1]
      show SV.int IntKind.u8 (I ((i * 8 + x) / 8) ((i * 8 + x) % 8)) = _
      rw [show (i * 8 + x) / 8 = i by omega, show (i * 8 + x) % 8 = x by omega]
end
/-- What the loop over the rows of f knows. -/
structure SolS (H0 : Hp) (n0 : Nat) (ty : TypeId) (p : Int) (f : Nat → Int) (n i m kk : Nat) (I S Kr : Nat → Nat → Int) (v9 v10 v11 : SV) (b9 b10 b11 : Nat) (H1 : Hp) (n1 : Nat) : Prop where
  src : SRC p f n I S m i
  gs : gsr p f i = (m, I, S)
  l9 : VL H1 v9 m I b9
  l10 : VL H1 v10 m S b10
  l11 : VL H1 v11 kk Kr b11
  kki : kk ≤ i
  d1 : b9 ≠ b10
  d2 : b9 ≠ b11
  d3 : b10 ≠ b11
  g9 : n0 < b9 ∧ b9 < n1
  g10 : n0 < b10 ∧ b10 < n1
  g11 : n0 < b11 ∧ b11 < n1
  g5 : H1.get n0 = some ⟨64, bys f, ty⟩
  low : ∀ x, x < n0 → H1.get x = H0.get x
  fresh : ∀ x, n1 ≤ x → H1.get x = none
end Go.V
namespace Go.Proofs.YtmkegkpabifpfaaGreat
open Go.V
set_option linter.unusedSimpArgs false
set_option linter.unusedVariables false
set_option maxHeartbeats 4000000

theorem spec_l01AddN (p k : Int) (v w : Nat → Int) (H : Hp) (n : Nat) (hp : 2 ≤ p ∧ p ≤ 31) (hv : isBy 8 v) (hw : isBy 8 w) (hk : -100000 ≤ k ∧ k ≤ 100000) :
    FnS Tryz.prog 26 [i64 p, .arr 8 (bys v), .arr 8 (bys w), i64 k] H n (fun r H' _ => r = .arr 8 (bys (pl p v k w)) ∧ H' = H) := by
  refine FnS.of_body Tryz.func26 tr26 (by simp) (fun hf => ?_)
  dsimp only [argEnv]
  unfold ir26
  (refine zG ?_)
  refine CS.iter 8 (fun i => [(9, i64 i), (8, ptr (n + 2) 0), (6, ptr (n + 1) 0), (5, ptr n 0), (0, i64 p), (3, i64 k)])
    (fun i => (n + 2, ⟨8, bys (fun _ => 0), 34⟩) :: (n + 1, ⟨8, bys w, 34⟩) :: (n, ⟨8, bys (prt (pl p v k w) v i), 34⟩) :: H) (fun _ => True) (by (repeat first | exact trivial | refine And.intro rfl ?_))
    (Drops.keepc rfl rfl (fun _ _ => rfl) (Drops.keepc rfl rfl (fun _ _ => rfl) (by rw [prt_zero]; exact Drops.refl _ _))) trivial ?_
  intro i n1 hi hn _
  (refine zG ?_)
  refine zI ?_ ?_<;>intro h1
  · have hpi := prt_at (pl p v k w) v i
    have hvi := hv i (by omega)
    have hwi := hw i (by omega)
    have hm : -25500000 ≤ k * w i ∧ k * w i ≤ 25500000 := by
      rcases Int.le_total 0 k with h0 | h0
      · have := mulB h0 hk.2 hwi.1 hwi.2; omega
      · have := mulB (show 0 ≤ -k by omega) (show -k ≤ 100000 by omega) hwi.1 hwi.2
        rw [Int.neg_mul] at this; omega
    have hb := modB (v i + k * w i) hp.1
    have hpl : (prt (pl p v k w) v i i + k * w i) % p = pl p v k w i := by rw [hpi]; rfl
    have hplb : 0 ≤ pl p v k w i ∧ pl p v k w i < p := hb
    (refine zG ?_)
    refine LS.callQ (u8 (pl p v k w i)) rfl (fun n' hn' => (spec_l01Mod p (prt (pl p v k w) v i i + k * w i) _ _ hp.1 hp.2 (by omega)).mono (fun r H' _ _ h => by rw [hpl] at h; exact h)) ?_
    (repeat first|refine zG ?_|(refine LS.nilO ?_;intro nq hnq hltq;try refine zU ?_)|(refine MS.new ?_;intro bq hbq hbqf;try refine zU ?_)|(refine MS.nil ?_;intro nq hnq hltq;have hlq:=hltq _ _ (Hp.get_eq _ _ _);clear hltq;try refine zU ?_)|(refine LS.nilQ ?_;try with_reducible intro nq hnq;try refine zU ?_))
    exact ⟨by omega, by (repeat first | exact trivial | refine And.intro rfl ?_), Drops.keepc rfl rfl (fun _ _ => rfl) (Drops.keepc rfl rfl (fun _ _ => rfl) (Drops.keepc rfl rfl (fun q hq => prt_put _ _ _ _) (Drops.refl _ _))), trivial⟩
  · have : i = 8 := by omega
    subst this
    (refine zG ?_)
    exact ⟨.arr 8 (bys (pl p v k w)), H, conc_arr (fun q hq => congrArg (SV.int .u8) (by simp only [Nat.zero_add]; exact prt_all _ _ _ _ hq)), by exact zD, rfl, rfl⟩

end Go.Proofs.YtmkegkpabifpfaaGreat

/- What leads to a vector, codes of a vector of an algebra, inverses: the spec's. -/
namespace Go.V
theorem Drops.setself {m : Nat} {H : Hp} {b : Nat} {k : Blk} {c : Nat → SV} (hb : H.get b = some k) (hc : ∀ i, i < k.size → k.c i = c i) : Drops m H (H.set b c) := by
  intro b'
  by_cases e : b = b'
  · subst e; exact .inr ⟨k, _, hb, Hp.get_set_self c hb, rfl, rfl, hc⟩
  · rw [Hp.get_set_other _ e]; exact Drops.refl m H b'
end Go.V
namespace Go.Proofs.YtmkegkpabifpfaaGreat
open Go.V
set_option linter.unusedSimpArgs false
set_option linter.unusedVariables false
set_option maxHeartbeats 4000000

end Go.Proofs.YtmkegkpabifpfaaGreat

/- Inverses of vectors: what they are, and the spec's function. -/
namespace Go.V
open Classical in
/-- The inverse, or zeros. -/
noncomputable def ivW (p : Int) (u m v : Nat → Int) (n : Nat) : Nat → Int := if h : ∃ w, isIv p u m v n w then h.choose else fun _ => 0
theorem ivW_is {p : Int} {u m v : Nat → Int} {n : Nat} (h : ∃ w, isIv p u m v n w) : isIv p u m v n (ivW p u m v n) := by
  unfold ivW; rw [dif_pos h]; exact h.choose_spec
theorem ivW_no {p : Int} {u m v : Nat → Int} {n : Nat} (h : ¬∃ w, isIv p u m v n w) : ivW p u m v n = fun _ => 0 := by
  unfold ivW; rw [dif_neg h]
theorem cdz {Q : Prop} : cd Q = 0 ↔ Q := by
  by_cases h : Q
  · rw [cd_true h]; exact ⟨fun _ => h, fun _ => rfl⟩
  · rw [cd_false h]; exact ⟨fun q => by omega, fun q => absurd q h⟩
/-- The code of an inverse. -/
noncomputable def ivC (A E : Prop) : Int := if tb A = true then if tb E = true then 0 else 4 else 1
theorem ivC_1 {A E : Prop} (h : ¬A) : ivC A E = 1 := by unfold ivC; rw [tb_false h]; rfl
theorem ivC_4 {A E : Prop} (h : A) (h2 : ¬E) : ivC A E = 4 := by unfold ivC; rw [tb_true h, tb_false h2]; rfl
theorem ivC_0 {A E : Prop} (h : A) (h2 : E) : ivC A E = 0 := by unfold ivC; rw [tb_true h, tb_true h2]; rfl
noncomputable def ivX (A : Prop) (w : Nat → Int) : Nat → Int := fun q => if tb A = true then w q else 0
theorem ivX_t {A : Prop} (h : A) (w : Nat → Int) : ivX A w = w := by funext q; unfold ivX; rw [if_pos (tb_true h)]
theorem ivX_f {A : Prop} (h : ¬A) (w : Nat → Int) : ivX A w = fun _ => 0 := by funext q; unfold ivX; rw [tb_false h, if_neg (by simp)]
/-- An algebra and a vector of it. -/
structure algW (p : Int) (a : Nat) (u m v : Nat → Int) : Prop where
  hp : isP p = true
  ha1 : 1 ≤ a
  ha : a ≤ 8
  hu : units p a u m
  has : assoc p a m
  ru : isRes p 8 u
  rv : isRes p 8 v
theorem algW_of {p n' : Int} {u m v : Nat → Int} (h : isAlg p n' u m ∧ isVec p n' v) (hu : isBy 8 u) (hv : isBy 8 v) : ∃ a : Nat, n' = a ∧ algW p a u m v := by
  obtain ⟨⟨⟨⟨q1, q2⟩, q3, q4⟩, q5, q6⟩, q7⟩ := h
  obtain ⟨a, rfl⟩ := Int.eq_ofNat_of_zero_le (show 0 ≤ n' by omega)
  exact ⟨a, rfl, q1, by omega, by omega, q5, q6, fun i hi => ⟨(hu i hi).1, (q3 i hi).1⟩, fun i hi => ⟨(hv i hi).1, (q7 i hi).1⟩⟩
end Go.V
namespace Go.Proofs.YtmkegkpabifpfaaGreat
open Go.V
set_option linter.unusedSimpArgs false
set_option linter.unusedVariables false
set_option maxHeartbeats 4000000

end Go.Proofs.YtmkegkpabifpfaaGreat

/- Systems of linear equations, the program's: their blocks, making them, one more equation. -/
namespace Go.V
/-- A slice of m values of one cell each, which lie in the block b (no block if it is nil). -/
def SL (H : Hp) (v : SV) (m : Nat) (F : Nat → SV) (b : Nat) : Prop :=
  (v = .nils ∧ m = 0) ∨ ∃ o cap k, v = .slc b o m cap ∧ H.get b = some k ∧ o + cap ≤ k.size ∧ m ≤ cap ∧ ∀ i, i < m → k.c (o + i) = F i
theorem SL.same {H : Hp} {v : SV} {m : Nat} {F F' : Nat → SV} {b : Nat} (h : SL H v m F b) (hs : ∀ i, i < m → F i = F' i) : SL H v m F' b := by
  rcases h with h | ⟨o, cap, k, h1, h2, h3, h4, h5⟩
  · exact .inl h
  · exact .inr ⟨o, cap, k, h1, h2, h3, h4, fun i hi => by rw [h5 i hi, hs i hi]⟩
theorem SL.keep {H H' : Hp} {v : SV} {m : Nat} {F : Nat → SV} {b : Nat} (h : SL H v m F b) (hg : H'.get b = H.get b) : SL H' v m F b := by
  rcases h with h | ⟨o, cap, k, h1, h2, h3⟩
  · exact .inl h
  · exact .inr ⟨o, cap, k, h1, hg.trans h2, h3⟩
def snS (F : Nat → SV) (m : Nat) (v : SV) : Nat → SV := fun i => if i = m then v else F i
section
variable {P : Program} {N mm : Nat} {e : Env} {H : Hp} {n : Nat} {l : List Ins} {d : Option Nat} {K : Env → Hp → Nat → Prop}
theorem RS.appS {t : TypeId} {bytes : Nat} {x y : X} {v w : SV} {m b b2 : Nat} {F : Nat → SV} {k2 : Blk} {z : Zs}
    (hx : x.ev e = some (.s v)) (hy : y.ev e = some (.s (.slc b2 0 1 1))) (hV : SL H v m F b) (hb2 : H.get b2 = some k2) (hs2 : k2.size = 1) (hc2 : k2.c 0 = w) (hm : m ≤ 1000) (hby : bytes ≤ 100) (hbn : b < n)
    (h : ∀ v' b' H' n', SL H' v' (m + 1) (snS F m w) b' → (b' = b ∨ b' = n) → b' < n' → n ≤ n' → n' ≤ n + 1 → (∀ x, x ≠ b' → H'.get x = H.get x) → LS P N mm (.seq K) l (putD d (.s v') e) H' n') :
    LS P N mm (.seq K) (⟨d, none, .app t 1 bytes z x y⟩ :: l) e H n := by
  have hy2 : sliceV H 1 (.slc b2 0 1 1) 1 1 (fun _ => w) := .inr ⟨b2, 0, k2, rfl, hb2, by omega, Nat.le_refl _, fun i hi => by (obtain rfl : i = 0 := by omega); exact hc2⟩
  have hby2 : (2 * (m + 1) + 768) * bytes ≤ 2 ^ 48 := Nat.le_trans (Nat.mul_le_mul (show 2 * (m + 1) + 768 ≤ 3000 by omega) hby) (by decide)
  have new : ∀ (c : Nat → SV), (∀ i, i < m → c i = F i) → ∀ cap', m + 1 ≤ cap' → LS P N mm (.seq K) l (putD d (.s (.slc n 0 (m + 1) cap')) e) ((n, ⟨cap' * 1, joinC ((m + 1) * 1) (joinC (m * 1) c (fun _ => w)) (fun i => z.c (i % 1)), t⟩) :: H) (n + 1) := by
    intro c hc cap' hcap
    refine h _ n _ (n + 1) (.inr ⟨0, cap', _, rfl, Hp.get_eq _ _ _, by (try dsimp only); omega, hcap, fun i hi => ?_⟩) (.inr rfl) (by omega) (by omega) (by omega) (fun x hx => Hp.get_ne _ _ (fun q => hx q.symm))
    (try dsimp only)
    unfold joinC snS
    rw [Nat.zero_add, if_pos (by omega)]
    by_cases e1 : i = m
    · rw [if_neg (by omega), if_pos e1]
    · rw [if_pos (by omega), if_neg e1, hc i (by omega)]
  rcases hV with ⟨rfl, rfl⟩ | ⟨o, cap, k, rfl, hk, ho, hmc, hc⟩
  · refine RS.app (len := 0) (cap := 0) (len2 := 1) (cap2 := 1) (c := F) (c2 := fun _ => w) hx hy (.inl ⟨rfl, rfl, rfl⟩) hy2 hby2 (by omega) (fun hle => by omega) (fun hlt cap' hcap => new F (fun i hi => rfl) cap' hcap)
  · refine RS.app (len2 := 1) (cap2 := 1) (c := F) (c2 := fun _ => w) hx hy (.inr ⟨b, o, k, rfl, hk, by omega, hmc, fun i hi => hc i (by omega)⟩) hy2 hby2 (by omega) (fun hle => ⟨fun b' o' k' he hk' => ?_, fun he => by cases he⟩) (fun hlt cap' hcap => new F (fun i hi => rfl) cap' hcap)
    cases he
    rw [hk] at hk'
    cases hk'
    refine h _ b _ n (.inr ⟨o, cap, _, rfl, Hp.get_set_self _ hk, ho, hle, fun i hi => ?_⟩) (.inl rfl) hbn (Nat.le_refl _) (by omega) (fun x hx => Hp.get_set_other _ (fun q => hx q.symm))
    (try dsimp only)
    unfold splice snS
    by_cases e1 : i = m
    · rw [if_pos (by omega), if_pos e1]
    · rw [if_neg (by omega), if_neg e1, hc i (by omega)]
end
/-- A system: its block sb, the block rb of its rows' slice, the blocks bk of its rows, of which each has a slice with some capacity. -/
structure SY (H : Hp) (sb : Nat) (p : Int) (a m : Nat) (R : Nat → Nat → Int) (rb : Nat) (bk cp : Nat → Nat) (k : Blk) : Prop where
  g : H.get sb = some k
  s : k.size = 5
  c0 : k.c 0 = .int .i64 p
  c1 : k.c 1 = .int .i64 0
  c2 : k.c 2 = .int .i64 a
  rows : SL H (k.c 3) m (fun i => .slc (bk i) 0 (a + 1) (cp (bk i))) rb
  row : ∀ i, i < m → ∃ ki, H.get (bk i) = some ki ∧ a + 1 ≤ ki.size ∧ ∀ x, x < a + 1 → ki.c x = .int .u8 (R i x)
  qc : ∀ i, i < m → a + 1 ≤ cp (bk i)
  d1 : sb ≠ rb
  d2 : ∀ i, i < m → bk i ≠ sb ∧ bk i ≠ rb
  d3 : ∀ i j, i < m → j < m → bk i = bk j → i = j
end Go.V
namespace Go.Proofs.YtmkegkpabifpfaaGreat
open Go.V
set_option linter.unusedSimpArgs false
set_option linter.unusedVariables false
set_option maxHeartbeats 4000000

/-- impl.newSystem -/
def ir56 : Cd := (.seq (.reg [⟨some 4,none,.mov (.c .nil)⟩]) (.seq (.reg [⟨some 5,none,.mov (.t 0)⟩,⟨some 6,none,.build 2 [(2,(.int .i64 0))] [(0,1,(.t 5)),(1,1,(.c (.int .i64 0)))]⟩,⟨some 7,none,.mov (.t 1)⟩,⟨some 8,none,.build 5 [(3,(.int .i64 0)),(2,.nils)] [(0,2,(.t 6)),(2,1,(.t 7))]⟩,⟨some 9,none,.box 120 (.t 8)⟩,⟨some 4,none,.mov (.t 9)⟩]) .ret))
set_option maxRecDepth 100000 in
theorem tr56 : trFn Tryz.prog Tryz.f56 = some (10, ir56, [.tmp 4]) := by kernel_rfl

theorem impl_newSystem (p : Int) (a : Nat) (H : Hp) (n : Nat) :
    FnS Tryz.prog 56 [i64 p, i64 a] H n (fun r H' n' => r = ptr n 0 ∧ n < n' ∧ ∃ k : Blk, H' = (n, k) :: H ∧ k.size = 5 ∧ k.c 0 = .int .i64 p ∧ k.c 1 = .int .i64 0 ∧ k.c 2 = .int .i64 a ∧ k.c 3 = .nils ∧ k.c 4 = .nils) := by
  refine FnS.of_body Tryz.func56 tr56 (by simp) (fun hf => ?_)
  dsimp only [argEnv]
  unfold ir56
  (refine zG ?_)
  exact ⟨ptr n 0, _, rfl, Drops.refl _ _, rfl, by omega, _, rfl, rfl, rfl, rfl, rfl, rfl, rfl⟩

/-- (*impl.system).add -/
def ir57 : Cd := (.seq (.reg [⟨some 9,none,.mov (.t 0)⟩,⟨some 10,none,.ck (.t 9)⟩,⟨some 11,none,.fa 2 (.t 10)⟩,⟨some 12,none,.ld none (.t 11)⟩,⟨some 13,none,.bin .add (.t 12) (.c (.int .i64 1))⟩,⟨some 14,none,.mks 5 1 1 [(1,(.int .u8 0))] (.t 13) (.t 13)⟩,⟨some 6,none,.mov (.t 14)⟩]) (.seq (.seq (.reg [⟨some 15,none,.mov (.t 1)⟩,⟨some 16,none,.len (.t 15)⟩,⟨some 17,none,.mov (.c (.int .i64 0))⟩]) (.block 0 (.loop (.seq (.reg [⟨some 18,none,.bin .lss (.t 17) (.t 16)⟩]) (.seq (.cond (.t 18) .skip (.exit 0)) (.seq (.block 1 (.seq (.reg [⟨some 19,none,.mov (.t 17)⟩,⟨some 20,none,.isl 1 (.t 15) (.t 17)⟩,⟨some 21,none,.ld none (.t 20)⟩,⟨some 7,none,.mov (.t 19)⟩,⟨some 8,none,.mov (.t 21)⟩]) (.reg [⟨some 22,none,.mov (.t 6)⟩,⟨some 23,none,.mov (.t 7)⟩,⟨some 24,none,.mov (.t 0)⟩,⟨some 25,none,.ck (.t 24)⟩,⟨some 26,none,.fa 0 (.t 25)⟩,⟨some 27,none,.ld (some 2) (.t 26)⟩,⟨some 28,none,.mov (.t 8)⟩,⟨some 29,none,.call 71 [(.t 27),(.t 28)]⟩,⟨some 30,none,.isl 1 (.t 22) (.t 23)⟩,⟨none,none,.st 1 (.t 30) (.t 29)⟩]))) (.reg [⟨some 31,none,.bin .add (.t 17) (.c (.int .i64 1))⟩,⟨some 17,none,.mov (.t 31)⟩]))))))) (.seq (.drw true [12] [⟨some 32,none,.mov (.t 6)⟩,⟨some 33,none,.mov (.t 0)⟩,⟨some 34,none,.ck (.t 33)⟩,⟨some 35,none,.fa 2 (.t 34)⟩,⟨some 36,none,.ld none (.t 35)⟩,⟨some 37,none,.mov (.t 0)⟩,⟨some 38,none,.ck (.t 37)⟩,⟨some 39,none,.fa 0 (.t 38)⟩,⟨some 40,none,.ld (some 2) (.t 39)⟩,⟨some 41,none,.mov (.t 2)⟩,⟨some 42,none,.call 71 [(.t 40),(.t 41)]⟩,⟨some 43,none,.isl 1 (.t 32) (.t 36)⟩,⟨none,none,.st 1 (.t 43) (.t 42)⟩]) (.reg [⟨some 44,none,.mov (.t 0)⟩,⟨some 45,none,.mov (.t 0)⟩,⟨some 46,none,.ck (.t 45)⟩,⟨some 47,none,.fa 3 (.t 46)⟩,⟨some 48,none,.ld none (.t 47)⟩,⟨some 49,none,.mov (.t 6)⟩,⟨some 50,none,.bsl 121 1 1 [(1,.nils)] [(0,1,(.t 49))]⟩,⟨some 51,none,.app 121 1 24 [(1,.nils)] (.t 48) (.t 50)⟩,⟨some 52,none,.ck (.t 44)⟩,⟨some 53,none,.fa 3 (.t 52)⟩,⟨none,none,.st 1 (.t 53) (.t 51)⟩]))))
set_option maxRecDepth 100000 in
theorem tr57 : trFn Tryz.prog Tryz.f57 = some (54, ir57, []) := by kernel_rfl

theorem system_add (p : Int) (a m : Nat) (R : Nat → Nat → Int) (sb rb lb : Nat) (bk cp : Nat → Nat) (ks Kl : Blk) (w : Nat → Int) (z : Int) (H : Hp) (n : Nat) (hp : 2 ≤ p ∧ p ≤ 31) (ha : a ≤ 8) (hm : m ≤ 500)
    (hS : SY H sb p a m R rb bk cp ks) (hrb : rb < n) (gl : H.get lb = some Kl) (sl : a ≤ Kl.size) (cl : ∀ q, q < a → Kl.c q = .int .i64 (w q)) (hw : ∀ q, q < a → -1000000 ≤ w q ∧ w q ≤ 1000000) (hz : -1000000 ≤ z ∧ z ≤ 1000000) :
    FnS Tryz.prog 57 [ptr sb 0, .s (.slc lb 0 a a), i64 z] H n (fun r H' n' => r = .tup [] ∧ ∃ rb' ks', SY H' sb p a (m + 1) (snc R m (fun x => if x < a then w x % p else z % p)) rb' (fun i => if i = m then n else bk i) (fun x => if x = n then a + 1 else cp x) ks' ∧ ks'.c 4 = ks.c 4 ∧ rb' < n' ∧ (rb' = rb ∨ n ≤ rb') ∧
      (∀ x, n' ≤ x → H'.get x = none) ∧ ∀ x, x < n → x ≠ sb → x ≠ rb → H'.get x = H.get x) := by
  obtain ⟨gs, ss, s0, s1, s2, srow, hrow, qc, d1, d2, d3⟩ := hS
  refine FnS.of_body Tryz.func57 tr57 (by simp) (fun hf => ?_)
  dsimp only [argEnv]
  unfold ir57
  have hsn := getlt hf gs
  have hln := getlt hf gl
  have s2' : ks.c (0 + 2) = .int .i64 a := s2
  have hfld : ∀ q, q < 2 → ks.c q = fldC p 0 q := fun q hq => by
    rcases (show q = 0 ∨ q = 1 by omega) with rfl | rfl
    · exact s0
    · exact s1
  (refine zG ?_)
  refine RS.mks (len := a + 1) (cap := a + 1) (by exact rfl) (by exact rfl) (by omega) (by omega) (by omega) (by omega) (by omega) ?_
  (refine zG ?_)
  refine CS.iter a (fun i => [(17, i64 i), (16, i64 a), (15, .s (.slc lb 0 a a)), (6, .s (.slc n 0 (a + 1) (a + 1))), (0, ptr sb 0), (2, i64 z)])
    (fun i => (n, ⟨a + 1, fun x => if x < i then .int .u8 (w x % p) else .int .u8 0, 5⟩) :: H) (fun _ => True) (by (repeat first | exact trivial | refine And.intro rfl ?_)) (Drops.keepc (by (try dsimp only); omega) rfl (fun q hq => by (try dsimp only); rw [if_neg (by omega), Nat.mod_one]; rfl) (Drops.refl _ _)) trivial ?_
  intro i n2 hi hn2 _
  (refine zG ?_)
  refine zI ?_ ?_<;>intro h2
  · have cl' : Kl.c (0 + i * 1) = .int .i64 (w i) := by rw [Nat.zero_add, Nat.mul_one]; exact cl i (by omega)
    have hwi := hw i (by omega)
    (refine zG ?_)
    refine RS.call rfl ((FnS.args (concs_cons (conc_arr hfld) rfl) (field_mod p 0 (w i) _ _ hp.1 hp.2 (by omega))).mono ?_)
    rintro r H' n3 hn3 ⟨rfl, rfl⟩
    (refine zG ?_)
    refine ⟨by omega, by (repeat first | exact trivial | refine And.intro rfl ?_), Drops.keepc rfl rfl (fun q hq => ?_) (Drops.refl _ _), trivial⟩
    (try dsimp only)
    rw [Nat.mul_one, Nat.zero_add]
    unfold put1
    by_cases e : q = i
    · subst e; rw [if_pos rfl, if_pos (by omega)]
    · rw [if_neg e]
      show (if q < i then _ else _) = _
      by_cases e2 : q < i
      · rw [if_pos e2, if_pos (by omega)]
      · rw [if_neg e2, if_neg (by omega)]
  · obtain rfl : i = a := by omega
    (refine zG ?_)
    refine LS.callQ (u8 (z % p)) rfl (fun n' hn' => FnS.args (concs_cons (conc_arr hfld) rfl) (field_mod p 0 z _ _ hp.1 hp.2 (by omega))) ?_
    (repeat first|refine zG ?_|(refine LS.nilO ?_;intro nq hnq hltq;try refine zU ?_)|(refine MS.new ?_;intro bq hbq hbqf;try refine zU ?_)|(refine MS.nil ?_;intro nq hnq hltq;have hlq:=hltq _ _ (Hp.get_eq _ _ _);clear hltq;try refine zU ?_)|(refine LS.nilQ ?_;try with_reducible intro nq hnq;try refine zU ?_))
    refine RS.appS (w := .slc n 0 (i + 1) (i + 1)) (by exact rfl) (by exact rfl) (srow.keep (by simp (disch := omega) only [Hp.get_ne])) (by exact zH) rfl (by simp [put1]) (by omega) (by omega) (by omega) ?_
    intro v' b' H' n5 hV hb' hl' hn5 hn5' hg'
    have gs' : H'.get sb = some ks := by rw [hg' sb (by omega)]; simp (disch := omega) only [Hp.get_ne]; exact gs
    have glow : ∀ x, x < n → x ≠ sb → x ≠ rb → (H'.set sb (put1 ks.c 3 v')).get x = H.get x := fun x q1 q2 q3 => by
      rw [Hp.get_set_other _ (fun q => q2 q.symm), hg' x (by omega)]; simp (disch := omega) only [Hp.get_ne]
    have hbk : ∀ j, j < m → bk j < n := fun j hj => by
      obtain ⟨kj, gj, _⟩ := hrow j hj
      exact getlt hf gj
    (refine zG ?_)
    refine ⟨.tup [], H'.set sb (put1 ks.c 3 v'), rfl, Drops.refl _ _, rfl, b', ⟨ks.size, put1 ks.c 3 v', ks.ty⟩, ?_, by simp [put1], hl', by omega, fun x hx => ?_, glow⟩
    · refine { g := Hp.get_set_self _ gs', s := ss, c0 := s0, c1 := s1, c2 := s2, rows := ?_, row := fun j hj => ?_, qc := fun j hj => ?_, d1 := by omega, d2 := fun j hj => ?_, d3 := fun j j2 hj hj2 he => ?_ }
      · refine (hV.keep (Hp.get_set_other _ (by omega))).same (fun k hk => ?_)
        unfold snS
        (try dsimp only)
        by_cases e : k = m
        · rw [if_pos e, if_pos e, if_pos rfl]
        · have := hbk k (by omega)
          rw [if_neg e, if_neg e, if_neg (by omega)]
      · by_cases e : j = m
        · subst e
          rw [if_pos rfl]
          refine ⟨⟨i + 1, put1 (fun x => if x < i then .int .u8 (w x % p) else .int .u8 0) (0 + i * 1) (.int .u8 (z % p)), 5⟩, by rw [Hp.get_set_other _ (by omega), hg' n (by omega)]; simp (disch := omega) only [Hp.get_eq, Hp.get_ne], Nat.le_refl _, fun x hx => ?_⟩
          (try dsimp only)
          unfold put1 snc
          rw [if_pos rfl, Nat.mul_one, Nat.zero_add]
          by_cases e2 : x = i
          · rw [if_pos e2, if_neg (by omega)]
          · rw [if_neg e2, if_pos (by omega)]
            show (if x < i then _ else _) = _
            rw [if_pos (by omega)]
        · obtain ⟨kj, gj, sj, cj⟩ := hrow j (by omega)
          have h1 := d2 j (by omega)
          have h2 := hbk j (by omega)
          rw [if_neg e]
          refine ⟨kj, by rw [glow (bk j) h2 h1.1 h1.2]; exact gj, sj, fun x hx => ?_⟩
          rw [cj x hx]; unfold snc; rw [if_neg e]
      · (try dsimp only)
        by_cases e : j = m
        · rw [if_pos e, if_pos rfl]; omega
        · have h2 := hbk j (by omega)
          have h3 := qc j (by omega)
          rw [if_neg e, if_neg (by omega)]; omega
      · by_cases e : j = m
        · rw [if_pos e]; omega
        · have h1 := d2 j (by omega)
          have h2 := hbk j (by omega)
          rw [if_neg e]; omega
      · by_cases e : j = m
        · by_cases e2 : j2 = m
          · omega
          · have h2 := hbk j2 (by omega)
            rw [if_pos e, if_neg e2] at he; omega
        · have h1 := hbk j (by omega)
          by_cases e2 : j2 = m
          · rw [if_neg e, if_pos e2] at he; omega
          · rw [if_neg e, if_neg e2] at he; exact d3 j j2 (by omega) (by omega) he
    · rw [Hp.get_set_other _ (by omega), hg' x (by omega)]; simp (disch := omega) only [Hp.get_ne]; exact hf x (by omega)

end Go.Proofs.YtmkegkpabifpfaaGreat
