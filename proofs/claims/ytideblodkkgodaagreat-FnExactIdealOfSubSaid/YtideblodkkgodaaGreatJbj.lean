/- Products are linear and associative; inverses (no program in sight). -/
import Derived.Test.YtideblodkkgodaaGreatJbi
import Derived.Test.YtideblodkkgodaaGreatJak
set_option linter.unusedSectionVars false
set_option linter.unusedVariables false
set_option linter.unusedSimpArgs false

namespace Go.V

set_option linter.unusedVariables false

theorem pr_eq (p : Int) (m v w : Nat → Int) (n q : Nat) : pr p m v w n q = sm (fun i => sm (fun j => v i * w j * m (64 * i + 8 * j + q)) n) n % p := by
  unfold pr pk
  show (_ + 0) % p = _
  rw [Int.add_zero]

theorem pr_basr {p : Int} {m v : Nat → Int} {n k : Nat} (hk : k < n) (q : Nat) : pr p m v (bas k) n q = sm (fun i => v i * m (64 * i + 8 * k + q)) n % p := by
  rw [pr_eq]
  refine congrArg (· % p) (sm_congr (fun i _ => ?_))
  rw [sm_one hk (fun j _ hj => by unfold bas; rw [if_neg hj]; simp)]
  unfold bas; rw [if_pos rfl, Int.mul_one]

theorem pr_linr (p : Int) (m v w : Nat → Int) (n q : Nat) : pr p m v w n q = sm (fun j => w j * pr p m v (bas j) n q) n % p := by
  rw [pr_eq, sm_swap]
  refine sm_modc (fun j hj => ?_)
  rw [pr_basr hj, emodR, sm_mul]
  refine congrArg (· % p) (sm_congr (fun i _ => ?_))
  rw [Int.mul_comm (v i), Int.mul_assoc]

theorem pr_congr {p : Int} {m v v' w w' : Nat → Int} {n : Nat} (hv : ∀ i, i < n → v i % p = v' i % p) (hw : ∀ i, i < n → w i % p = w' i % p) (q : Nat) : pr p m v w n q = pr p m v' w' n q := by
  rw [pr_eq, pr_eq]
  refine sm_modc (fun i hi => sm_modc (fun j hj => ?_))
  exact Gmodmul (Gmodmul (hv i hi) (hw j hj)) rfl

theorem pr_idem (p : Int) (m v w : Nat → Int) (n q : Nat) : pr p m v w n q % p = pr p m v w n q := by rw [pr_eq, emod_idem]

theorem sm_bas {v : Nat → Int} {n q : Nat} (hq : q < 8) (hv : ∀ x, x < 8 → n ≤ x → v x = 0) : sm (fun i => v i * bas i q) n = v q := by
  by_cases e : q < n
  · rw [sm_one e (fun i _ hi => by unfold bas; rw [if_neg (fun h => hi h.symm), Int.mul_zero])]; unfold bas; rw [if_pos rfl, Int.mul_one]
  · rw [sm_zero (fun i hi => by unfold bas; rw [if_neg (by omega), Int.mul_zero]), hv q hq (by omega)]

/-- One row more: the images and what leads to them, as the spec makes them. -/
noncomputable def gst (p : Int) (f : Nat → Int) (i : Nat) (g : Nat × (Nat → Nat → Int) × (Nat → Nat → Int)) : Nat × (Nat → Nat → Int) × (Nat → Nat → Int) :=
  if fsn (rdk p g.2.1 (fun x => f (8 * i + x)) g.1) 8 < 8 then
    (g.1 + 1, snc g.2.1 g.1 (pl p (fun _ => 0) (inv p (rdk p g.2.1 (fun x => f (8 * i + x)) g.1 (fsn (rdk p g.2.1 (fun x => f (8 * i + x)) g.1) 8))) (rdk p g.2.1 (fun x => f (8 * i + x)) g.1)),
      snc g.2.2 g.1 (pl p (fun _ => 0) (inv p (rdk p g.2.1 (fun x => f (8 * i + x)) g.1 (fsn (rdk p g.2.1 (fun x => f (8 * i + x)) g.1) 8))) (rdw p g.2.1 g.2.2 (fun x => f (8 * i + x)) (bas i) (-1) g.1)))
  else g

noncomputable def gsr (p : Int) (f : Nat → Int) : Nat → Nat × (Nat → Nat → Int) × (Nat → Nat → Int)
  | 0 => (0, fun _ _ => 0, fun _ _ => 0)
  | i + 1 => gst p f i (gsr p f i)

/-- The table of w ↦ v w, row i being v e(i). -/
def lfm (p : Int) (m v : Nat → Int) (n : Nat) : Nat → Int := fun q => pr p m v (bas (q / 8)) n (q % 8)

theorem lfm_at (p : Int) (m v : Nat → Int) (n i y : Nat) (hy : y < 8) : pr p m v (bas i) n y = lfm p m v n (8 * i + y) := by
  unfold lfm; rw [show (8 * i + y) / 8 = i by omega, show (8 * i + y) % 8 = y by omega]

def lft (p : Int) (m v : Nat → Int) (n : Nat) : Nat → Int := rowsTo (fun _ => 0) (lfm p m v n) n

theorem lft_at {p : Int} {m v : Nat → Int} {n i y : Nat} (hi : i < n) (hy : y < 8) : lft p m v n (8 * i + y) = pr p m v (bas i) n y := by
  unfold lft rowsTo; rw [if_pos (by omega), ← lfm_at _ _ _ _ _ _ hy]

theorem lft_app {p : Int} {m v w : Nat → Int} {n : Nat} (hn : n ≤ 8) (hz : ∀ y, y < 8 → n ≤ y → w y = 0) {x : Nat} (hx : x < 8) : app p (lft p m v n) w x = pr p m v w n x := by
  unfold app
  rw [pr_linr, sm_more (n := n) hn (fun i h1 h2 => by rw [hz i h2 h1, Int.zero_mul])]
  exact congrArg (· % p) (sm_congr (fun i hi => by rw [lft_at hi hx]))

end Go.V

/- Kernels, meets of spaces, ideals of sub Hopf algebras (no program in sight). -/

namespace Go.V

set_option linter.unusedSimpArgs false

set_option linter.unusedVariables false

theorem app_sum {p : Int} {f : Nat → Int} {W : Nat → Nat → Int} {g : Nat → Int} {x : Nat} : ∀ {m : Nat} {v : Nat → Int}, (∀ x, x < 8 → v x % p = sm (fun k => g k * W k x) m % p) → app p f v x = sm (fun k => g k * app p f (W k) x) m % p
  | 0, v, h => by
    unfold app
    rw [sm_modc (g := fun _ => 0) (fun i hi => by rw [Int.mul_emod, h i hi]; show (0 % p * (f (8 * i + x) % p)) % p = 0 % p; rw [Int.zero_emod, Int.zero_mul, Int.zero_emod]), sm_zero (fun _ _ => rfl)]; rfl
  | m + 1, v, h => by
    rw [app_pl (u := fun x => sm (fun k => g k * W k x) m) (v := W m) (k := g m) (fun x hx => by rw [h x hx]; rfl) x, app_sum (m := m) (v := fun x => sm (fun k => g k * W k x) m) (fun x hx => rfl), modAddL]
    rfl

theorem IMG.coef {p : Int} {I : Nat → Nat → Int} {m : Nat} {g : Nat → Int} (h : IMG p I m) (h0 : ∀ x, x < 8 → sm (fun k => g k * I k x) m % p = 0) : ∀ k, k < m → g k % p = 0 := by
  intro k
  induction k using Nat.strongRecOn with
  | _ k ih =>
    intro hk
    have e := h0 _ (h.lt k hk)
    rw [sm_modc (g := fun j => if j = k then g k else 0) (fun j hj => by
      by_cases h1 : j = k
      · subst h1; rw [h.one j hk, if_pos rfl, Int.mul_one]
      · rw [if_neg h1]
        by_cases h2 : j < k
        · rw [Int.mul_emod, ih j h2 hj, Int.zero_mul]
        · rw [h.tri k j (by omega) hj, Int.mul_zero]), sm_one hk (fun j _ hj => by rw [if_neg hj])] at e
    rw [if_pos rfl] at e
    exact e

theorem rdk_iff {p : Int} (hp : 2 ≤ p) {A : Nat → Nat → Int} {m : Nat} {v : Nat → Int} (h : IMG p A m) (hv : isRes p 8 v) : (∀ x, x < 8 → rdk p A v m x = 0) ↔ spn p A m v := by
  refine ⟨fun q => rdk_back m (Nat.le_refl _) (spn_zero (fun x hx => by rw [q x hx]; exact Int.zero_emod p)), fun q x hx => ?_⟩
  have := spn_none h (rdk_spn q m (Nat.le_refl _)) (fun k hk => rdk_zero hp h m k hk (Nat.le_refl _)) hx
  rwa [modSelf (rdk_res hp hv m x hx)] at this

theorem rdk_lin {p : Int} {T W : Nat → Nat → Int} {y w : Nat → Int} {c d : Nat} (hlt : ∀ i, i < d → fsn (T i) 8 < 8) (h : ∀ x, x < 8 → w x % p = sm (fun k => y k * W k x) c % p) : ∀ j, j ≤ d → ∀ x, x < 8 → rdk p T w j x % p = sm (fun k => y k * rdk p T (W k) j x) c % p
  | 0, _, x, hx => h x hx
  | j + 1, hj, x, hx => by
    have h1 := rdk_lin hlt h j (by omega) x hx
    have h2 := rdk_lin hlt h j (by omega) _ (hlt j (by omega))
    rw [rdk_succ]
    unfold pl
    rw [emod_idem, Gmodadd h1 (Gmodmul (a := -(rdk p T w j (fsn (T j) 8))) (a' := -(sm (fun k => y k * rdk p T (W k) j (fsn (T j) 8)) c)) (b := T j x) (by rw [← Int.zero_sub, ← Int.zero_sub]; exact Gmodsub rfl h2) rfl)]
    rw [sm_modc (f := fun k => y k * rdk p T (W k) (j + 1) x) (g := fun k => y k * rdk p T (W k) j x + (y k * rdk p T (W k) j (fsn (T j) 8)) * -(T j x)) (fun k hk => by
      (try dsimp only)
      rw [rdk_succ]
      unfold pl
      rw [Gmodmul (a := y k) rfl (emod_idem _ p), Int.mul_add, Int.mul_neg, Int.neg_mul, Int.mul_neg, Int.mul_assoc]), sm_add, ← sm_mulr]
    congr 2
    rw [Int.neg_mul, Int.mul_neg]

theorem rdw_spn {p : Int} {I S : Nat → Nat → Int} {v w : Nat → Int} {s : Int} : ∀ k, ∃ g, spn p S k g ∧ ∀ x, x < 8 → rdw p I S v w s k x % p = (w x + g x) % p
  | 0 => ⟨fun _ => 0, spn_zero (fun x hx => Int.zero_emod p), fun x hx => by rw [Int.add_zero]; rfl⟩
  | k + 1 => by
    obtain ⟨g, h1, h2⟩ := rdw_spn (p := p) (I := I) (S := S) (v := v) (w := w) (s := s) k
    refine ⟨fun x => 1 * g x + (s * rdk p I v k (fsn (I k) 8)) * S k x, spn_add (spn_more (by omega) h1) (spn_one (k := k) (by omega)) (fun x hx => rfl), fun x hx => ?_⟩
    rw [rdw_succ]
    unfold pl
    (try dsimp only)
    rw [emod_idem, Gmodadd (h2 x hx) rfl, Int.one_mul, Int.add_assoc]

/-- What is known of the list of combinations whose image is 0. -/
structure KR (p : Int) (f : Nat → Int) (n : Nat) (S Kr : Nat → Nat → Int) (m kk i : Nat) : Prop where
  res : ∀ l, l < kk → isRes p 8 (Kr l)
  sz : ∀ l x, l < kk → x < 8 → n ≤ x → Kr l x = 0
  nul : ∀ l x, l < kk → x < 8 → app p f (Kr l) x = 0
  all : ∀ j, j < i → ∃ s k, spn p S m s ∧ spn p Kr kk k ∧ ∀ x, x < 8 → bas j x % p = (s x + k x) % p

theorem KR.zero (p : Int) (f : Nat → Int) (n : Nat) (S Kr : Nat → Nat → Int) : KR p f n S Kr 0 0 0 := ⟨fun _ h => by omega, fun _ _ h => by omega, fun _ _ h => by omega, fun _ h => by omega⟩

theorem bas_res {p : Int} (hp : 2 ≤ p) (i N : Nat) : isRes p N (bas i) := fun x _ => by unfold bas; split <;> omega

theorem KR.ker {p : Int} (hp : 2 ≤ p) {f : Nat → Int} {n m kk i : Nat} {I S Kr : Nat → Nat → Int} (h : KR p f n S Kr m kk i) (hs : SRC p f n I S m i) (hi : i < n) (hn : n ≤ 8) {W : Nat → Int} (hW : W = rdw p I S (fun x => f (8 * i + x)) (bas i) (-1) m) (h0 : ∀ x, x < 8 → rdk p I (fun x => f (8 * i + x)) m x = 0) :
    KR p f n S (snc Kr kk W) m (kk + 1) (i + 1) := by
  have e0 : ∀ x, app p f (bas i) x = f (8 * i + x) % p := fun x => by
    unfold app
    rw [sm_one (j := i) (by omega) (fun j _ hj => by (try dsimp only); unfold bas; rw [if_neg hj, Int.zero_mul])]
    (try dsimp only)
    unfold bas; rw [if_pos rfl, Int.one_mul]
  refine ⟨fun l hl => ?_, fun l x hl hx hnx => ?_, fun l x hl hx => ?_, fun j hj => ?_⟩
  · unfold snc
    by_cases e : l = kk
    · rw [if_pos e, hW]; exact rdw_res hp (bas_res hp i 8) m
    · rw [if_neg e]; exact h.res l (by omega)
  · unfold snc
    by_cases e : l = kk
    · rw [if_pos e, hW]; exact rdw_sz hs (fun x hx hnx => by unfold bas; rw [if_neg (by omega)]) hx hnx m (Nat.le_refl _)
    · rw [if_neg e]; exact h.sz l x (by omega) hx hnx
  · unfold snc
    by_cases e : l = kk
    · rw [if_pos e, hW]
      have := rdw_src hs (v := fun x => f (8 * i + x)) (w := bas i) (s := -1) hx m (Nat.le_refl _)
      rw [h0 x hx, e0, Int.mul_zero, Int.add_zero, modAddL] at this
      rw [show f (8 * i + x) + -1 * f (8 * i + x) = 0 by omega, Int.zero_emod] at this
      unfold app at this ⊢
      rwa [emod_idem] at this
    · rw [if_neg e]; exact h.nul l x (by omega) hx
  · by_cases e : j = i
    · subst e
      obtain ⟨g, h1, h2⟩ := rdw_spn (p := p) (I := I) (S := S) (v := fun x => f (8 * j + x)) (w := bas j) (s := -1) m
      refine ⟨fun x => (-1) * g x + 0 * g x, W, spn_add h1 h1 (fun x hx => rfl), ?_, fun x hx => ?_⟩
      · have := spn_one (p := p) (I := snc Kr kk W) (m := kk + 1) (k := kk) (by omega)
        unfold snc at this ⊢
        rwa [if_pos rfl] at this
      · rw [hW, Gmodadd rfl (h2 x hx)]
        (try dsimp only)
        congr 1; omega
    · obtain ⟨s, k, h1, h2, h3⟩ := h.all j (by omega)
      exact ⟨s, k, h1, spn_snc h2, h3⟩

theorem KR.img {p : Int} {f : Nat → Int} {n m kk i : Nat} {I S Kr : Nat → Nat → Int} (h : KR p f n S Kr m kk i) {W : Nat → Int} {u v : Int} (huv : u * v % p = 1 % p) (hW : W = rdw p I S (fun x => f (8 * i + x)) (bas i) (-1) m) :
    KR p f n (snc S m (pl p (fun _ => 0) v W)) Kr (m + 1) kk (i + 1) := by
  refine ⟨h.res, h.sz, h.nul, fun j hj => ?_⟩
  by_cases e : j = i
  · subst e
    obtain ⟨g, h1, h2⟩ := rdw_spn (p := p) (I := I) (S := S) (v := fun x => f (8 * j + x)) (w := bas j) (s := -1) m
    have h4 := spn_one (p := p) (I := snc S m (pl p (fun _ => 0) v W)) (m := m + 1) (k := m) (by omega)
    have h5 : snc S m (pl p (fun _ => 0) v W) m = pl p (fun _ => 0) v W := by unfold snc; rw [if_pos rfl]
    rw [h5] at h4
    refine ⟨fun x => u * pl p (fun _ => 0) v W x + (-1) * g x, fun _ => 0, spn_add h4 (spn_snc h1) (fun x hx => rfl), spn_zero (fun x hx => Int.zero_emod p), fun x hx => ?_⟩
    have e1 : (u * pl p (fun _ => 0) v W x) % p = (bas j x + g x) % p := by
      rw [← h2 x hx, ← hW]
      unfold pl
      rw [Gmodmul (a := u) rfl (emod_idem _ p), Int.zero_add, ← Int.mul_assoc, Gmodmul huv rfl, Int.one_mul]
    (try dsimp only)
    rw [Int.add_zero, Gmodadd e1 rfl]
    congr 1; omega
  · obtain ⟨s, k, h1, h2, h3⟩ := h.all j (by omega)
    exact ⟨s, k, spn_snc h1, h2, h3⟩

/-- The vectors of a space are those of size n that f leads to 0. -/
def KER (p : Int) (f : Nat → Int) (n : Nat) (A : Nat → Nat → Int) (d : Nat) : Prop :=
  ∀ v, isRes p 8 v → (spn p A d v ↔ (∀ x, x < 8 → n ≤ x → v x = 0) ∧ ∀ x, x < 8 → app p f v x = 0)

theorem KR.part {p : Int} {f : Nat → Int} {n m kk i : Nat} {S Kr : Nat → Nat → Int} (h : KR p f n S Kr m kk i) (v : Nat → Int) : ∀ r, r ≤ i → ∃ s k, spn p S m s ∧ spn p Kr kk k ∧ ∀ x, x < 8 → sm (fun j => v j * bas j x) r % p = (s x + k x) % p
  | 0, _ => ⟨fun _ => 0, fun _ => 0, spn_zero (fun x hx => Int.zero_emod p), spn_zero (fun x hx => Int.zero_emod p), fun x hx => rfl⟩
  | r + 1, hr => by
    obtain ⟨s, k, h1, h2, h3⟩ := KR.part h v r (by omega)
    obtain ⟨s', k', h1', h2', h3'⟩ := h.all r (by omega)
    refine ⟨fun x => 1 * s x + v r * s' x, fun x => 1 * k x + v r * k' x, spn_add h1 h1' (fun x hx => rfl), spn_add h2 h2' (fun x hx => rfl), fun x hx => ?_⟩
    rw [sm, Gmodadd (h3 x hx) (Gmodmul (a := v r) rfl (h3' x hx))]
    (try dsimp only)
    rw [Int.one_mul, Int.one_mul, Int.mul_add]
    congr 1; omega

theorem KR.iff {p : Int} (hp : 2 ≤ p) {f : Nat → Int} {n m kk : Nat} {I S Kr : Nat → Nat → Int} (h : KR p f n S Kr m kk n) (hs : SRC p f n I S m n) (hn : n ≤ 8) : KER p f n Kr kk := by
  intro v hv
  refine ⟨fun ⟨g, hg⟩ => ⟨fun x hx hnx => ?_, fun x hx => ?_⟩, fun ⟨hz, h0⟩ => ?_⟩
  · have e := hg x hx
    rw [modSelf (hv x hx), sm_zero (fun l hl => by rw [h.sz l x hl hx hnx, Int.mul_zero])] at e
    rw [e]; rfl
  · rw [app_sum hg, sm_zero (fun l hl => by rw [h.nul l x hl hx, Int.mul_zero])]; rfl
  · obtain ⟨s, k, h1, h2, h3⟩ := h.part v n (Nat.le_refl _)
    have hvs : ∀ x, x < 8 → v x % p = (s x + k x) % p := fun x hx => by rw [← h3 x hx, sm_bas hx hz]
    have hk0 : ∀ x, x < 8 → app p f k x = 0 := fun x hx => by
      obtain ⟨g, hg⟩ := h2
      rw [app_sum hg, sm_zero (fun l hl => by rw [h.nul l x hl hx, Int.mul_zero])]; rfl
    obtain ⟨g, hg⟩ := h1
    have hs0 : ∀ x, x < 8 → sm (fun l => g l * I l x) m % p = 0 := fun x hx => by
      have e1 := app_sum (f := f) (x := x) hg
      rw [sm_congr (g := fun l => g l * I l x) (fun l hl => by rw [hs.src l x hl hx])] at e1
      have e2 := app_pl (p := p) (f := f) (u := s) (v := k) (w := v) (k := 1) (fun x hx => by rw [hvs x hx, Int.one_mul]) x
      rw [h0 x hx, hk0 x hx, Int.mul_zero, Int.add_zero, e1, emod_idem] at e2
      exact e2.symm
    have hg0 := hs.toIMG.coef hs0
    refine spn_add (a := 1) (b := 0) h2 h2 (fun x hx => ?_)
    rw [hvs x hx, Gmodadd (a' := 0) (by rw [hg x hx, sm_modc (g := fun _ => 0) (fun l hl => by rw [Int.mul_emod, hg0 l hl, Int.zero_mul]), sm_zero (fun _ _ => rfl)]) (rfl : k x % p = k x % p)]
    congr 1; omega

theorem KER.same {p : Int} {f : Nat → Int} {n d d' : Nat} {A B : Nat → Nat → Int} (h : KER p f n A d) (hs : Go.V.same p B d' A d) : KER p f n B d' := fun v hv =>
  ⟨fun q => (h v hv).1 (sub_spn hs.1 q), fun q => sub_spn hs.2 ((h v hv).2 q)⟩

/-- The vectors that are in two spaces. -/
theorem meet_iff {p : Int} (hp : 2 ≤ p) {R T A O own : Nat → Nat → Int} {c d k e : Nat} {f v : Nat → Int} (hc : c ≤ 8) (hR : ∀ i, i < c → isRes p 8 (R i)) (hT : IMG p T d) (hf : ∀ i x, i < c → x < 8 → f (8 * i + x) = rdk p T (R i) d x)
    (hA : KER p f c A k) (hAr : ∀ i, i < k → isRes p 8 (A i)) (ho : ∀ i x, i < k → x < 8 → own i x % p = sm (fun j => A i j * R j x) c % p) (hor : ∀ i, i < k → isRes p 8 (own i)) (hO : same p O e own k) (hv : isRes p 8 v) : spn p O e v ↔ spn p R c v ∧ spn p T d v := by
  have hap : ∀ (y : Nat → Int) x, x < 8 → (∀ i, i < 8 → c ≤ i → y i = 0) → app p f y x = sm (fun i => y i * rdk p T (R i) d x) c % p := fun y x hx hy => by
    unfold app
    rw [sm_more hc (fun i h1 h2 => by rw [hy i h2 h1, Int.zero_mul]), sm_congr (fun i hi => by rw [hf i x hi hx])]
  refine ⟨fun q => ?_, fun ⟨⟨y, hy⟩, q2⟩ => ?_⟩
  · have q' := sub_spn hO.1 q
    have h1 : ∀ i, i < k → spn p R c (own i) := fun i hi => ⟨A i, fun x hx => ho i x hi hx⟩
    have h2 : ∀ i, i < k → spn p T d (own i) := fun i hi => by
      have ⟨hz, ha⟩ := (hA (A i) (hAr i hi)).1 (spn_one hi)
      refine (rdk_iff hp hT (hor i hi)).1 (fun x hx => ?_)
      have e := rdk_lin hT.lt (fun x hx => ho i x hi hx) d (Nat.le_refl _) x hx
      rw [← hap (A i) x hx hz, ha x hx] at e
      rwa [modSelf (rdk_res hp (hor i hi) d x hx)] at e
    obtain ⟨g, hg⟩ := q'
    exact ⟨spn_sum h1 hg, spn_sum h2 hg⟩
  · obtain ⟨z, hz⟩ : ∃ z : Nat → Int, z = fun i => if i < c then y i % p else 0 := ⟨_, rfl⟩
    have hzr : isRes p 8 z := fun i hi => by rw [hz]; (try dsimp only); split; exact modB _ hp; omega
    have hzc : ∀ i, i < 8 → c ≤ i → z i = 0 := fun i hi h1 => by rw [hz]; (try dsimp only); rw [if_neg (by omega)]
    have hvz : ∀ x, x < 8 → v x % p = sm (fun i => z i * R i x) c % p := fun x hx => by
      rw [hy x hx]
      exact sm_modc (fun i hi => by rw [hz]; (try dsimp only); rw [if_pos hi]; exact Gmodmul (emod_idem _ p).symm rfl)
    have hk : spn p A k z := (hA z hzr).2 ⟨hzc, fun x hx => by
      rw [hap z x hx hzc, ← rdk_lin hT.lt hvz d (Nat.le_refl _) x hx, (rdk_iff hp hT hv).2 q2 x hx]; exact Int.zero_emod p⟩
    obtain ⟨g, hg⟩ := hk
    refine sub_spn hO.2 ⟨g, fun x hx => ?_⟩
    rw [hvz x hx, sm_modc (f := fun l => g l * own l x) (g := fun l => g l * sm (fun j => A l j * R j x) c) (fun l hl => Gmodmul rfl (ho l x hl hx)),
      sm_modc (f := fun i => z i * R i x) (g := fun i => sm (fun l => g l * A l i) k * R i x) (fun i hi => Gmodmul (hg i (by omega)) rfl)]
    refine congrArg (· % p) ?_
    rw [sm_congr (g := fun i => sm (fun l => g l * A l i * R i x) k) (fun i hi => sm_mulr _ _ _), sm_congr (f := fun l => g l * sm (fun j => A l j * R j x) c) (g := fun l => sm (fun j => g l * A l j * R j x) c) (fun l hl => by rw [sm_mul]; exact sm_congr (fun j _ => by rw [Int.mul_assoc])), sm_swap]

/-- The products of the first N basis elements with the vectors of a list. -/
def prl (p : Int) (m : Nat → Int) (N : Nat) (W : Nat → Nat → Int) : Nat → Nat → Int := fun q => pr p m (bas (q % N)) (W (q / N)) N

theorem sub_prl {p : Int} {m : Nat → Int} {N d d' : Nat} {A B : Nat → Nat → Int} (hN : 1 ≤ N) (hN8 : N ≤ 8) (hA : ∀ i x, i < d → x < 8 → N ≤ x → A i x = 0) (hB : ∀ i x, i < d' → x < 8 → N ≤ x → B i x = 0) (h : sub p A d B d') : sub p (prl p m N A) (N * d) (prl p m N B) (N * d') := by
  intro q hq
  have hqd : q / N < d := Nat.div_lt_of_lt_mul hq
  have hr : q % N < N := Nat.mod_lt _ (by omega)
  obtain ⟨g, hg⟩ := h _ hqd
  refine spn_sum (r := d') (W := fun k => prl p m N B (k * N + q % N)) (y := g) (fun k hk => spn_one (by
    have : (k + 1) * N ≤ N * d' := by rw [Nat.mul_comm N]; exact Nat.mul_le_mul_right N hk
    rw [Nat.succ_mul] at this; omega)) (fun x hx => ?_)
  unfold prl
  rw [pr_idem, ← lft_app hN8 (fun y hy hy2 => hA _ y hqd hy hy2) hx, app_sum hg]
  refine congrArg (· % p) (sm_congr (fun k hk => ?_))
  rw [show (k * N + q % N) / N = k by rw [Nat.mul_comm, Nat.mul_add_div (by omega), Nat.div_eq_of_lt hr, Nat.add_zero], show (k * N + q % N) % N = q % N by rw [Nat.mul_comm, Nat.mul_add_mod, Nat.mod_eq_of_lt hr]]
  rw [lft_app hN8 (fun y hy hy2 => hB k y hk hy hy2) hx]

/-- The table whose first column is e. -/
def colf (e : Nat → Int) : Nat → Int := fun q => if q % 8 = 0 then e (q / 8) else 0

theorem colf_0 (p : Int) (e v : Nat → Int) : app p (colf e) v 0 = dotk p e v 8 := by
  rw [dotk_comm]
  unfold app dotk colf
  refine congrArg (· % p) (sm_congr (fun i hi => ?_))
  rw [if_pos (by omega), show (8 * i + 0) / 8 = i by omega]

theorem colf_s (p : Int) (e v : Nat → Int) {x : Nat} (hx : x < 8) (h : x ≠ 0) : app p (colf e) v x = 0 := by
  unfold app colf
  rw [sm_zero (fun i hi => by rw [if_neg (by omega), Int.mul_zero])]; rfl

theorem KER.aug {p : Int} {e : Nat → Int} {n d : Nat} {A : Nat → Nat → Int} (h : KER p (colf e) n A d) {v : Nat → Int} (hv : isRes p 8 v) : spn p A d v ↔ (∀ x, x < 8 → n ≤ x → v x = 0) ∧ dotk p e v 8 = 0 := by
  rw [h v hv, ← colf_0]
  exact ⟨fun q => ⟨q.1, q.2 0 (by omega)⟩, fun q => ⟨q.1, fun x hx => by
    by_cases e1 : x = 0
    · rw [e1]; exact q.2
    · exact colf_s p e v hx e1⟩⟩

theorem dotk_sum {p : Int} {e : Nat → Int} {W : Nat → Nat → Int} {g : Nat → Int} {m : Nat} {v : Nat → Int} (h : ∀ x, x < 8 → v x % p = sm (fun k => g k * W k x) m % p) : dotk p e v 8 = sm (fun k => g k * dotk p e (W k) 8) m % p := by
  rw [← colf_0, app_sum h]
  exact congrArg (· % p) (sm_congr (fun k _ => by rw [colf_0]))

/-- The vectors of a space less their numbers times a vector of the number 1 in it are a list of its vectors of the number 0. -/
theorem aug_same {p : Int} (hp : 2 ≤ p) {R M : Nat → Nat → Int} {c d : Nat} {U e : Nat → Int} (hR : ∀ i, i < c → isRes p 8 (R i)) (hM : ∀ i, i < d → isRes p 8 (M i)) (hU : spn p R c U) (h1 : dotk p e U 8 = 1)
    (h : ∀ v, isRes p 8 v → (spn p M d v ↔ spn p R c v ∧ dotk p e v 8 = 0)) : same p M d (fun j => pl p (R j) (-(dotk p e (R j) 8)) U) c := by
  have hlin : ∀ j, dotk p e (pl p (R j) (-(dotk p e (R j) 8)) U) 8 = 0 := fun j => by
    rw [← colf_0, app_pl (u := R j) (v := U) (k := -(dotk p e (R j) 8)) (fun x hx => by unfold pl; exact emod_idem _ p) 0, colf_0, colf_0, h1, Int.mul_one, Int.add_right_neg]
    exact Int.zero_emod p
  refine ⟨fun i hi => ?_, fun j hj => (h _ (pl_res hp _ _ _ 8)).2 ⟨spn_add (a := 1) (spn_one hj) hU (fun x hx => by unfold pl; rw [emod_idem, Int.one_mul]), hlin j⟩⟩
  obtain ⟨⟨g, hg⟩, h0⟩ := (h (M i) (hM i hi)).1 (spn_one hi)
  refine ⟨g, fun x hx => ?_⟩
  rw [dotk_sum hg] at h0
  rw [sm_modc (g := fun k => g k * R k x + g k * dotk p e (R k) 8 * -(U x)) (fun k hk => by
    unfold pl
    rw [Gmodmul (a := g k) rfl (emod_idem _ p), Int.mul_add, Int.neg_mul, Int.mul_neg, Int.mul_neg, Int.mul_assoc]), sm_add, ← sm_mulr, Gmodadd (hg x hx).symm (Gmodmul (a' := 0) (by rw [h0]; rfl) rfl), Int.zero_mul, Int.add_zero]

end Go.V

/- Left tables, first places (the spec's). -/

namespace Go.V

structure Fx (Q : Prop) : Prop where
  out : Q

end Go.V

namespace Go.Proofs.YtideblodkkgodaaGreat

open Go.V

variable [BW]

set_option linter.unusedSimpArgs false

set_option linter.unusedVariables false

set_option maxHeartbeats 4000000

/-- spec.l01First -/
def ir44 : Cd := (.seq (.reg [⟨some 1,none,.box 32 (.t 0)⟩,⟨some 2,none,.mov (.c (.int .i64 0))⟩]) (.seq (.reg [⟨some 3,none,.mov (.c (.int .i64 0))⟩]) (.seq (.block 0 (.loop (.seq (.seq (.reg [⟨some 4,none,.mov (.t 3)⟩,⟨some 5,none,.bin .lss (.t 4) (.c (.int .i64 8))⟩,⟨some 6,none,.mov (.t 5)⟩,⟨some 7,(some (6,true)),.mov (.t 3)⟩,⟨some 8,(some (6,true)),.ia 8 1 (.t 1) (.t 7)⟩,⟨some 9,(some (6,true)),.ld none (.t 8)⟩,⟨some 10,(some (6,true)),.bin .eql (.t 9) (.c (.int .u8 0))⟩,⟨some 11,none,.pick (.t 6) (.t 10) (.c (.bool false))⟩]) (.cond (.t 11) .skip (.exit 0))) (.block 1 (.reg [⟨some 12,none,.mov (.t 3)⟩,⟨some 13,none,.bin .add (.t 12) (.c (.int .i64 1))⟩,⟨some 3,none,.mov (.t 13)⟩]))))) (.seq (.reg [⟨some 14,none,.mov (.t 3)⟩,⟨some 2,none,.mov (.t 14)⟩]) .ret))))

set_option maxRecDepth 100000 in
theorem tr44 : trFn Tryz.prog Tryz.f44 = some (15, ir44, [.tmp 2]) := by kernel_rfl

theorem spec_l01First (v : Nat → Int) (H : Hp) (n : Nat) :
    FnS Tryz.prog 44 [.arr 8 (bys v)] H n (fun r H' _ => r = i64 (fsn v 8) ∧ H' = H) := by
  refine FnS.of_body Tryz.func44 tr44 (by simp) (fun hf => ?_)
  dsimp only [argEnv]
  unfold ir44
  (refine zG ?_)
  refine CS.iter 8 (fun i => [(3, i64 i), (1, ptr n 0)]) (fun i => (n, ⟨8, bys v, 32⟩) :: H) (fun i => Fx (∀ j, j < i → v j = 0)) (by (repeat first | exact trivial | refine And.intro rfl ?_)) (Drops.refl _ _) ⟨fun j hj => by omega⟩ ?_
  intro i n2 hi hn hJ
  (refine zG ?_)
  by_cases h2 : i < 8
  · rw [show decide ((i : Int) < 8) = true from decide_eq_true (by omega)]
    have hv1 : (bys v) i = .int .u8 (v i) := rfl
    (refine zG ?_)
    by_cases h3 : v i = 0
    · rw [show (v i == 0) = true by simpa using h3]
      (refine zG ?_)
      exact ⟨by omega, by (repeat first | exact trivial | refine And.intro rfl ?_), Drops.refl _ _, ⟨fun j hj => if e : j = i then by subst e; exact h3 else hJ.out j (by omega)⟩⟩
    · rw [show (v i == 0) = false by simpa using h3]
      (refine zG ?_)
      exact ⟨i64 i, H, rfl, by exact zD, by rw [fsn_eq h2 hJ.out h3], rfl⟩
  · obtain rfl : i = 8 := by omega
    rw [show decide (((8 : Nat) : Int) < 8) = false by decide]
    (refine zG ?_)
    exact ⟨i64 8, H, rfl, by exact zD, by rw [fsn_all hJ.out]; rfl, rfl⟩

end Go.Proofs.YtideblodkkgodaaGreat

/- The spec's reduction of the rows of a table, one by one. -/

namespace Go.V

variable [BW]

set_option linter.unusedSimpArgs false

set_option linter.unusedVariables false

/-- A slice of m vectors, which lie in the block b. -/
def VL (H : Hp) (v : SV) (m : Nat) (I : Nat → Nat → Int) (b : Nat) : Prop :=
  ∃ o cap k, v = .slc b o m cap ∧ H.get b = some k ∧ o + cap * 8 ≤ k.size ∧ m ≤ cap ∧ ∀ i x, i < m → x < 8 → k.c (o + (i * 8 + x)) = .int .u8 (I i x)

theorem VL.keep {H H' : Hp} {v : SV} {m : Nat} {I : Nat → Nat → Int} {b : Nat} (h : VL H v m I b) (hg : H'.get b = H.get b) : VL H' v m I b := by
  obtain ⟨o, cap, k, h1, h2, h3⟩ := h
  exact ⟨o, cap, k, h1, hg.trans h2, h3⟩

theorem VL.slice {H : Hp} {v : SV} {m : Nat} {I : Nat → Nat → Int} {b : Nat} (h : VL H v m I b) : ∃ cap, sliceV H 8 v m cap (fun i => .int .u8 (I (i / 8) (i % 8))) := by
  obtain ⟨o, cap, k, h1, h2, h3, h4, h5⟩ := h
  refine ⟨cap, .inr ⟨b, o, k, h1, h2, h3, h4, fun i hi => ?_⟩⟩
  show _ = SV.int IntKind.u8 (I (i / 8) (i % 8))
  rw [← h5 (i / 8) (i % 8) (by omega) (by omega), show i / 8 * 8 + i % 8 = i by omega]

section

variable {P : Program} {N mm : Nat} {e : Env} {H : Hp} {n : Nat} {l : List Ins} {d : Option Nat} {K : Env → Hp → Nat → Prop}

/-- One more vector. -/
theorem RS.appV {t : TypeId} {x y : X} {v : SV} {m b b2 : Nat} {I : Nat → Nat → Int} {w : Nat → Int} {k2 : Blk} {z : Zs}
    (hx : x.ev e = some (.s v)) (hy : y.ev e = some (.s (.slc b2 0 1 1))) (hV : VL H v m I b) (hb2 : H.get b2 = some k2) (hs2 : k2.size = 8) (hc2 : ∀ q, q < 8 → k2.c q = .int .u8 (w q)) (hm : m ≤ 4000000) (hf : H.get n = none) (hbn : b < n)
    (h : ∀ v' b' H' n', VL H' v' (m + 1) (snc I m w) b' → (b' = b ∨ b' = n) → b' < n' → n ≤ n' → n' ≤ n + 1 → (∀ x, x ≠ b' → H'.get x = H.get x) → LS P N mm (.seq K) l (putD d (.s v') e) H' n') :
    LS P N mm (.seq K) (⟨d, none, .app t 8 8 z x y⟩ :: l) e H n := by
  obtain ⟨o, cap, k, rfl, hk, ho, hmc, hc⟩ := hV
  refine RS.app (len2 := 1) (cap2 := 1) (c := fun i => .int .u8 (I (i / 8) (i % 8))) (c2 := fun i => .int .u8 (w i)) hx hy (.inr ⟨b, o, k, rfl, hk, ho, hmc, fun i hi => ?_⟩) (.inr ⟨b2, 0, k2, rfl, hb2, by omega, Nat.le_refl _, fun i hi => by rw [Nat.zero_add]; exact hc2 i (by omega)⟩) (by omega) (by omega) (fun hle => ⟨fun b' o' k' he hk' => ?_, fun he => by cases he⟩) (fun hlt cap' hcap => ?_)
  · show _ = SV.int IntKind.u8 (I (i / 8) (i % 8))
    rw [← hc (i / 8) (i % 8) (by omega) (by omega), show i / 8 * 8 + i % 8 = i by omega]
  · cases he
    rw [hk] at hk'
    cases hk'
    refine h _ b _ n ⟨o, cap, _, rfl, Hp.get_set_self _ hk, ho, hle, fun i x hi hx => ?_⟩ (.inl rfl) hbn (Nat.le_refl _) (by omega) (fun x hx => Hp.get_set_other _ (fun q => hx q.symm))
    (try dsimp only)
    unfold splice snc
    by_cases e1 : i = m
    · subst e1
      rw [if_pos (by omega), if_pos rfl]
      congr 2; omega
    · rw [if_neg (by omega), if_neg e1]
      exact hc i x (by omega) hx
  · refine h _ n _ (n + 1) ⟨0, cap', _, rfl, Hp.get_eq _ _ _, by (try dsimp only); omega, hcap, fun i x hi hx => ?_⟩ (.inr rfl) (by omega) (by omega) (by omega) (fun x hx => Hp.get_ne _ _ (fun q => hx q.symm))
    (try dsimp only)
    unfold joinC snc
    rw [Nat.zero_add]
    by_cases e1 : i = m
    · subst e1
      rw [if_pos (by omega), if_neg (by omega), if_pos rfl]
      congr 2; omega
    · rw [if_pos (by omega), if_pos (by omega), if_neg e1]
      show SV.int IntKind.u8 (I ((i * 8 + x) / 8) ((i * 8 + x) % 8)) = _
      rw [show (i * 8 + x) / 8 = i by omega, show (i * 8 + x) % 8 = x by omega]

end

/-- What the loop over the rows of f knows. -/
structure SolS (H0 : Hp) (n0 : Nat) (ty : TypeId) (p : Int) (f : Nat → Int) (n i m kk : Nat) (I S Kr : Nat → Nat → Int) (v9 v10 v11 : SV) (b9 b10 b11 : Nat) (H1 : Hp) (n1 : Nat) : Prop where
  src : SRC p f n I S m i
  gs : gsr p f i = (m, I, S)
  l9 : VL H1 v9 m I b9
  l10 : VL H1 v10 m S b10
  l11 : VL H1 v11 kk Kr b11
  kki : kk ≤ i
  d1 : b9 ≠ b10
  d2 : b9 ≠ b11
  d3 : b10 ≠ b11
  g9 : n0 < b9 ∧ b9 < n1
  g10 : n0 < b10 ∧ b10 < n1
  g11 : n0 < b11 ∧ b11 < n1
  g5 : H1.get n0 = some ⟨64, bys f, ty⟩
  low : ∀ x, x < n0 → H1.get x = H0.get x
  fresh : ∀ x, n1 ≤ x → H1.get x = none

end Go.V

namespace Go.Proofs.YtideblodkkgodaaGreat

open Go.V

variable [BW]

set_option linter.unusedSimpArgs false

set_option linter.unusedVariables false

set_option maxHeartbeats 4000000

theorem spec_l01AddN (p k : Int) (v w : Nat → Int) (H : Hp) (n : Nat) (hp : 2 ≤ p ∧ p ≤ 31) (hv : isBy 8 v) (hw : isBy 8 w) (hk : -100000 ≤ k ∧ k ≤ 100000) :
    FnS Tryz.prog 42 [i64 p, .arr 8 (bys v), .arr 8 (bys w), i64 k] H n (fun r H' _ => r = .arr 8 (bys (pl p v k w)) ∧ H' = H) := by
  refine FnS.of_body Tryz.func42 tr42 (by simp) (fun hf => ?_)
  dsimp only [argEnv]
  unfold ir42
  (refine zG ?_)
  refine CS.iter 8 (fun i => [(9, i64 i), (8, ptr (n + 2) 0), (6, ptr (n + 1) 0), (5, ptr n 0), (0, i64 p), (3, i64 k)])
    (fun i => (n + 2, ⟨8, bys (fun _ => 0), 32⟩) :: (n + 1, ⟨8, bys w, 32⟩) :: (n, ⟨8, bys (prt (pl p v k w) v i), 32⟩) :: H) (fun _ => True) (by (repeat first | exact trivial | refine And.intro rfl ?_))
    (Drops.keepc rfl rfl (fun _ _ => rfl) (Drops.keepc rfl rfl (fun _ _ => rfl) (by rw [prt_zero]; exact Drops.refl _ _))) trivial ?_
  intro i n1 hi hn _
  (refine zG ?_)
  refine zI ?_ ?_<;>intro h1
  · have hpi := prt_at (pl p v k w) v i
    have hvi := hv i (by omega)
    have hwi := hw i (by omega)
    have hm : -25500000 ≤ k * w i ∧ k * w i ≤ 25500000 := by
      rcases Int.le_total 0 k with h0 | h0
      · have := mulB h0 hk.2 hwi.1 hwi.2; omega
      · have := mulB (show 0 ≤ -k by omega) (show -k ≤ 100000 by omega) hwi.1 hwi.2
        rw [Int.neg_mul] at this; omega
    have hb := modB (v i + k * w i) hp.1
    have hpl : (prt (pl p v k w) v i i + k * w i) % p = pl p v k w i := by rw [hpi]; rfl
    have hplb : 0 ≤ pl p v k w i ∧ pl p v k w i < p := hb
    (refine zG ?_)
    refine LS.callQ (u8 (pl p v k w i)) rfl (fun n' hn' => (spec_l01Mod p (prt (pl p v k w) v i i + k * w i) _ _ hp.1 hp.2 (by omega)).mono (fun r H' _ _ h => by rw [hpl] at h; exact h)) ?_
    (repeat first|refine zG ?_|(refine LS.nilQ ?_;try with_reducible intro nq hnq;try refine zU ?_))
    exact ⟨by omega, by (repeat first | exact trivial | refine And.intro rfl ?_), Drops.keepc rfl rfl (fun _ _ => rfl) (Drops.keepc rfl rfl (fun _ _ => rfl) (Drops.keepc rfl rfl (fun q hq => prt_put _ _ _ _) (Drops.refl _ _))), trivial⟩
  · have : i = 8 := by omega
    subst this
    (refine zG ?_)
    exact ⟨.arr 8 (bys (pl p v k w)), H, conc_arr (fun q hq => congrArg (SV.int .u8) (by simp only [Nat.zero_add]; exact prt_all _ _ _ _ hq)), by exact zD, rfl, rfl⟩

/-- spec.l01Solve -/
def ir60 : Cd := (.seq (.reg [⟨some 5,none,.box 34 (.t 2)⟩,⟨some 6,none,.mov (.c .nils)⟩,⟨some 7,none,.mov (.c .nils)⟩,⟨some 8,none,.mov (.c .nils)⟩]) (.seq (.reg [⟨some 19,none,.bsl 32 0 8 [(8,(.int .u8 0))] []⟩,⟨some 20,none,.bsl 32 0 8 [(8,(.int .u8 0))] []⟩,⟨some 21,none,.bsl 32 0 8 [(8,(.int .u8 0))] []⟩,⟨some 9,none,.mov (.t 19)⟩,⟨some 10,none,.mov (.t 20)⟩,⟨some 11,none,.mov (.t 21)⟩]) (.seq (.seq (.reg [⟨some 12,none,.mov (.c (.int .i64 0))⟩]) (.block 0 (.loop (.seq (.seq (.reg [⟨some 22,none,.mov (.t 12)⟩,⟨some 23,none,.mov (.t 1)⟩,⟨some 24,none,.bin .lss (.t 22) (.t 23)⟩]) (.cond (.t 24) .skip (.exit 0))) (.seq (.block 1 (.seq (.mixt [] [⟨some 27,none,.mov (.t 12)⟩,⟨some 28,none,.ia 8 8 (.t 5) (.t 27)⟩,⟨some 29,none,.ld (some 8) (.t 28)⟩,⟨some 30,none,.mov (.t 12)⟩,⟨some 31,none,.call 21 [(.t 30)]⟩] [⟨some 27,none,.mov (.t 12)⟩,⟨some 28,none,.ia 8 8 (.t 5) (.t 27)⟩,⟨some 29,none,.ld (some 8) (.t 28)⟩,⟨some 30,none,.mov (.t 12)⟩,⟨some 31,none,.call 21 [(.t 30)]⟩,⟨some 13,none,.new 32 [(8,(.int .u8 0))]⟩,⟨some 14,none,.new 32 [(8,(.int .u8 0))]⟩,⟨none,none,.st 8 (.t 13) (.t 29)⟩,⟨none,none,.st 8 (.t 14) (.t 31)⟩] (.fork (.seg 5 (.seg 6 (.seg 7 (.seg 8 .done)))) (.seg 6 (.seg 5 (.seg 7 (.seg 8 .done)))))) (.seq (.seq (.reg [⟨some 15,none,.mov (.c (.int .i64 0))⟩]) (.block 2 (.loop (.seq (.seq (.reg [⟨some 32,none,.mov (.t 15)⟩,⟨some 33,none,.mov (.t 9)⟩,⟨some 34,none,.len (.t 33)⟩,⟨some 35,none,.bin .lss (.t 32) (.t 34)⟩]) (.cond (.t 35) .skip (.exit 2))) (.seq (.block 3 (.seq (.reg [⟨some 38,none,.mov (.t 9)⟩,⟨some 39,none,.mov (.t 15)⟩,⟨some 40,none,.isl 8 (.t 38) (.t 39)⟩,⟨some 41,none,.ld (some 8) (.t 40)⟩,⟨some 42,none,.call 44 [(.t 41)]⟩,⟨some 16,none,.mov (.t 42)⟩]) (.seq (.reg [⟨some 43,none,.mov (.t 16)⟩,⟨some 44,none,.ia 8 1 (.t 13) (.t 43)⟩,⟨some 45,none,.ld none (.t 44)⟩,⟨some 46,none,.bin .neq (.t 45) (.c (.int .u8 0))⟩]) (.cond (.t 46) (.seq (.reg [⟨some 47,none,.mov (.t 16)⟩,⟨some 48,none,.ia 8 1 (.t 13) (.t 47)⟩,⟨some 49,none,.ld none (.t 48)⟩,⟨some 50,none,.cv .i64 (.t 49)⟩,⟨some 51,none,.un .neg (.t 50)⟩,⟨some 17,none,.mov (.t 51)⟩]) (.seq (.drw true [7,8] [⟨some 52,none,.mov (.t 0)⟩,⟨some 53,none,.ld (some 8) (.t 13)⟩,⟨some 54,none,.mov (.t 9)⟩,⟨some 55,none,.mov (.t 15)⟩,⟨some 56,none,.isl 8 (.t 54) (.t 55)⟩,⟨some 57,none,.ld (some 8) (.t 56)⟩,⟨some 58,none,.mov (.t 17)⟩,⟨some 59,none,.call 42 [(.t 52),(.t 53),(.t 57),(.t 58)]⟩,⟨none,none,.st 8 (.t 13) (.t 59)⟩]) (.drw true [7,8] [⟨some 60,none,.mov (.t 0)⟩,⟨some 61,none,.ld (some 8) (.t 14)⟩,⟨some 62,none,.mov (.t 10)⟩,⟨some 63,none,.mov (.t 15)⟩,⟨some 64,none,.isl 8 (.t 62) (.t 63)⟩,⟨some 65,none,.ld (some 8) (.t 64)⟩,⟨some 66,none,.mov (.t 17)⟩,⟨some 67,none,.call 42 [(.t 60),(.t 61),(.t 65),(.t 66)]⟩,⟨none,none,.st 8 (.t 14) (.t 67)⟩]))) .skip)))) (.reg [⟨some 36,none,.mov (.t 15)⟩,⟨some 37,none,.bin .add (.t 36) (.c (.int .i64 1))⟩,⟨some 15,none,.mov (.t 37)⟩])))))) (.seq (.seq (.reg [⟨some 68,none,.ld (some 8) (.t 13)⟩,⟨some 69,none,.call 43 [(.t 68)]⟩]) (.cond (.t 69) (.seq (.reg [⟨some 70,none,.mov (.t 11)⟩,⟨some 71,none,.ld (some 8) (.t 14)⟩,⟨some 72,none,.bsl 32 1 8 [(8,(.int .u8 0))] [(0,8,(.t 71))]⟩,⟨some 73,none,.app 32 8 8 [(8,(.int .u8 0))] (.t 70) (.t 72)⟩,⟨some 11,none,.mov (.t 73)⟩]) (.exit 1)) .skip)) (.seq (.reg [⟨some 74,none,.mov (.t 0)⟩,⟨some 75,none,.ld (some 8) (.t 13)⟩,⟨some 76,none,.call 44 [(.t 75)]⟩,⟨some 77,none,.ia 8 1 (.t 13) (.t 76)⟩,⟨some 78,none,.ld none (.t 77)⟩,⟨some 79,none,.call 45 [(.t 74),(.t 78)]⟩,⟨some 80,none,.cv .i64 (.t 79)⟩,⟨some 18,none,.mov (.t 80)⟩]) (.seq (.reg [⟨some 81,none,.mov (.t 9)⟩,⟨some 82,none,.mov (.t 0)⟩,⟨some 83,none,.build 8 [(8,(.int .u8 0))] []⟩,⟨some 84,none,.ld (some 8) (.t 13)⟩,⟨some 85,none,.mov (.t 18)⟩,⟨some 86,none,.call 42 [(.t 82),(.t 83),(.t 84),(.t 85)]⟩,⟨some 87,none,.bsl 32 1 8 [(8,(.int .u8 0))] [(0,8,(.t 86))]⟩,⟨some 88,none,.app 32 8 8 [(8,(.int .u8 0))] (.t 81) (.t 87)⟩,⟨some 9,none,.mov (.t 88)⟩]) (.reg [⟨some 89,none,.mov (.t 10)⟩,⟨some 90,none,.mov (.t 0)⟩,⟨some 91,none,.build 8 [(8,(.int .u8 0))] []⟩,⟨some 92,none,.ld (some 8) (.t 14)⟩,⟨some 93,none,.mov (.t 18)⟩,⟨some 94,none,.call 42 [(.t 90),(.t 91),(.t 92),(.t 93)]⟩,⟨some 95,none,.bsl 32 1 8 [(8,(.int .u8 0))] [(0,8,(.t 94))]⟩,⟨some 96,none,.app 32 8 8 [(8,(.int .u8 0))] (.t 89) (.t 95)⟩,⟨some 10,none,.mov (.t 96)⟩]))))))) (.reg [⟨some 25,none,.mov (.t 12)⟩,⟨some 26,none,.bin .add (.t 25) (.c (.int .i64 1))⟩,⟨some 12,none,.mov (.t 26)⟩])))))) (.seq (.reg [⟨some 97,none,.mov (.t 9)⟩,⟨some 98,none,.mov (.t 10)⟩,⟨some 99,none,.mov (.t 11)⟩,⟨some 6,none,.mov (.t 97)⟩,⟨some 7,none,.mov (.t 98)⟩,⟨some 8,none,.mov (.t 99)⟩]) .ret))))

set_option maxRecDepth 100000 in
theorem tr60 : trFn Tryz.prog Tryz.f60 = some (100, ir60, [.tmp 6, .tmp 7, .tmp 8]) := by kernel_rfl

end Go.Proofs.YtideblodkkgodaaGreat

/- Inverses of vectors: what they are, and the spec's function. -/

namespace Go.V

open Classical in

/-- An algebra and a vector of it. -/
structure algW (p : Int) (a : Nat) (u m v : Nat → Int) : Prop where
  hp : isP p = true
  ha1 : 1 ≤ a
  ha : a ≤ 8
  hu : units p a u m
  has : assoc p a m
  ru : isRes p 8 u
  rv : isRes p 8 v

end Go.V

namespace Go.Proofs.YtideblodkkgodaaGreat

open Go.V

variable [BW]

set_option linter.unusedSimpArgs false

set_option linter.unusedVariables false

set_option maxHeartbeats 4000000

end Go.Proofs.YtideblodkkgodaaGreat

/- Systems of linear equations, the program's: their blocks, making them, one more equation. -/

namespace Go.V

variable [BW]

/-- A slice of m values of one cell each, which lie in the block b (no block if it is nil). -/
def SL (H : Hp) (v : SV) (m : Nat) (F : Nat → SV) (b : Nat) : Prop :=
  (v = .nils ∧ m = 0) ∨ ∃ o cap k, v = .slc b o m cap ∧ H.get b = some k ∧ o + cap ≤ k.size ∧ m ≤ cap ∧ ∀ i, i < m → k.c (o + i) = F i

theorem SL.same {H : Hp} {v : SV} {m : Nat} {F F' : Nat → SV} {b : Nat} (h : SL H v m F b) (hs : ∀ i, i < m → F i = F' i) : SL H v m F' b := by
  rcases h with h | ⟨o, cap, k, h1, h2, h3, h4, h5⟩
  · exact .inl h
  · exact .inr ⟨o, cap, k, h1, h2, h3, h4, fun i hi => by rw [h5 i hi, hs i hi]⟩

theorem SL.keep {H H' : Hp} {v : SV} {m : Nat} {F : Nat → SV} {b : Nat} (h : SL H v m F b) (hg : H'.get b = H.get b) : SL H' v m F b := by
  rcases h with h | ⟨o, cap, k, h1, h2, h3⟩
  · exact .inl h
  · exact .inr ⟨o, cap, k, h1, hg.trans h2, h3⟩

def snS (F : Nat → SV) (m : Nat) (v : SV) : Nat → SV := fun i => if i = m then v else F i

section

variable {P : Program} {N mm : Nat} {e : Env} {H : Hp} {n : Nat} {l : List Ins} {d : Option Nat} {K : Env → Hp → Nat → Prop}

theorem RS.appS {t : TypeId} {bytes : Nat} {x y : X} {v w : SV} {m b b2 : Nat} {F : Nat → SV} {k2 : Blk} {z : Zs}
    (hx : x.ev e = some (.s v)) (hy : y.ev e = some (.s (.slc b2 0 1 1))) (hV : SL H v m F b) (hb2 : H.get b2 = some k2) (hs2 : k2.size = 1) (hc2 : k2.c 0 = w) (hm : m ≤ 4000000) (hby : bytes ≤ 4000000) (hbn : b < n)
    (h : ∀ v' b' H' n', SL H' v' (m + 1) (snS F m w) b' → (b' = b ∨ b' = n) → b' < n' → n ≤ n' → n' ≤ n + 1 → (∀ x, x ≠ b' → H'.get x = H.get x) → LS P N mm (.seq K) l (putD d (.s v') e) H' n') :
    LS P N mm (.seq K) (⟨d, none, .app t 1 bytes z x y⟩ :: l) e H n := by
  have hy2 : sliceV H 1 (.slc b2 0 1 1) 1 1 (fun _ => w) := .inr ⟨b2, 0, k2, rfl, hb2, by omega, Nat.le_refl _, fun i hi => by (obtain rfl : i = 0 := by omega); exact hc2⟩
  have hby2 : (2 * (m + 1) + 768) * bytes ≤ 2 ^ 48 := Nat.le_trans (Nat.mul_le_mul (show 2 * (m + 1) + 768 ≤ 9000000 by omega) hby) (by decide)
  have new : ∀ (c : Nat → SV), (∀ i, i < m → c i = F i) → ∀ cap', m + 1 ≤ cap' → LS P N mm (.seq K) l (putD d (.s (.slc n 0 (m + 1) cap')) e) ((n, ⟨cap' * 1, joinC ((m + 1) * 1) (joinC (m * 1) c (fun _ => w)) (fun i => z.c (i % 1)), t⟩) :: H) (n + 1) := by
    intro c hc cap' hcap
    refine h _ n _ (n + 1) (.inr ⟨0, cap', _, rfl, Hp.get_eq _ _ _, by (try dsimp only); omega, hcap, fun i hi => ?_⟩) (.inr rfl) (by omega) (by omega) (by omega) (fun x hx => Hp.get_ne _ _ (fun q => hx q.symm))
    (try dsimp only)
    unfold joinC snS
    rw [Nat.zero_add, if_pos (by omega)]
    by_cases e1 : i = m
    · rw [if_neg (by omega), if_pos e1]
    · rw [if_pos (by omega), if_neg e1, hc i (by omega)]
  rcases hV with ⟨rfl, rfl⟩ | ⟨o, cap, k, rfl, hk, ho, hmc, hc⟩
  · refine RS.app (len := 0) (cap := 0) (len2 := 1) (cap2 := 1) (c := F) (c2 := fun _ => w) hx hy (.inl ⟨rfl, rfl, rfl⟩) hy2 hby2 (by omega) (fun hle => by omega) (fun hlt cap' hcap => new F (fun i hi => rfl) cap' hcap)
  · refine RS.app (len2 := 1) (cap2 := 1) (c := F) (c2 := fun _ => w) hx hy (.inr ⟨b, o, k, rfl, hk, by omega, hmc, fun i hi => hc i (by omega)⟩) hy2 hby2 (by omega) (fun hle => ⟨fun b' o' k' he hk' => ?_, fun he => by cases he⟩) (fun hlt cap' hcap => new F (fun i hi => rfl) cap' hcap)
    cases he
    rw [hk] at hk'
    cases hk'
    refine h _ b _ n (.inr ⟨o, cap, _, rfl, Hp.get_set_self _ hk, ho, hle, fun i hi => ?_⟩) (.inl rfl) hbn (Nat.le_refl _) (by omega) (fun x hx => Hp.get_set_other _ (fun q => hx q.symm))
    (try dsimp only)
    unfold splice snS
    by_cases e1 : i = m
    · rw [if_pos (by omega), if_pos e1]
    · rw [if_neg (by omega), if_neg e1, hc i (by omega)]

end

/-- A system: its block sb, the block rb of its rows' slice, the blocks bk of its rows, of which each has a slice with some capacity. -/
structure SY (H : Hp) (sb : Nat) (p : Int) (a m : Nat) (R : Nat → Nat → Int) (rb : Nat) (bk cp : Nat → Nat) (k : Blk) : Prop where
  g : H.get sb = some k
  s : k.size = 5
  c0 : k.c 0 = .int .i64 p
  c1 : k.c 1 = .int .i64 0
  c2 : k.c 2 = .int .i64 a
  rows : SL H (k.c 3) m (fun i => .slc (bk i) 0 (a + 1) (cp (bk i))) rb
  row : ∀ i, i < m → ∃ ki, H.get (bk i) = some ki ∧ a + 1 ≤ ki.size ∧ ∀ x, x < a + 1 → ki.c x = .int .u8 (R i x)
  qc : ∀ i, i < m → a + 1 ≤ cp (bk i)
  d1 : sb ≠ rb
  d2 : ∀ i, i < m → bk i ≠ sb ∧ bk i ≠ rb
  d3 : ∀ i j, i < m → j < m → bk i = bk j → i = j

end Go.V

namespace Go.Proofs.YtideblodkkgodaaGreat

open Go.V

variable [BW]

set_option linter.unusedSimpArgs false

set_option linter.unusedVariables false

set_option maxHeartbeats 4000000

/-- impl.newSystem -/
def ir67 : Cd := (.seq (.reg [⟨some 4,none,.mov (.c .nil)⟩]) (.seq (.reg [⟨some 5,none,.mov (.t 0)⟩,⟨some 6,none,.build 2 [(2,(.int .i64 0))] [(0,1,(.t 5)),(1,1,(.c (.int .i64 0)))]⟩,⟨some 7,none,.mov (.t 1)⟩,⟨some 8,none,.build 5 [(3,(.int .i64 0)),(2,.nils)] [(0,2,(.t 6)),(2,1,(.t 7))]⟩,⟨some 9,none,.box 103 (.t 8)⟩,⟨some 4,none,.mov (.t 9)⟩]) .ret))

set_option maxRecDepth 100000 in
theorem tr67 : trFn Tryz.prog Tryz.f67 = some (10, ir67, [.tmp 4]) := by kernel_rfl

theorem impl_newSystem (p : Int) (a : Nat) (H : Hp) (n : Nat) :
    FnS Tryz.prog 67 [i64 p, i64 a] H n (fun r H' n' => r = ptr n 0 ∧ n < n' ∧ ∃ k : Blk, H' = (n, k) :: H ∧ k.size = 5 ∧ k.c 0 = .int .i64 p ∧ k.c 1 = .int .i64 0 ∧ k.c 2 = .int .i64 a ∧ k.c 3 = .nils ∧ k.c 4 = .nils) := by
  refine FnS.of_body Tryz.func67 tr67 (by simp) (fun hf => ?_)
  dsimp only [argEnv]
  unfold ir67
  (refine zG ?_)
  exact ⟨ptr n 0, _, rfl, Drops.refl _ _, rfl, by omega, _, rfl, rfl, rfl, rfl, rfl, rfl, rfl⟩

end Go.Proofs.YtideblodkkgodaaGreat
