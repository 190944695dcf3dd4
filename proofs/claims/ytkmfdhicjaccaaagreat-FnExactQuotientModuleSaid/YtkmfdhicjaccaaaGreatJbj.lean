/- Products are linear and associative; inverses (no program in sight). -/
import Derived.Test.YtkmfdhicjaccaaaGreatJbi
import Derived.Test.YtkmfdhicjaccaaaGreatJak
set_option linter.unusedSectionVars false
set_option linter.unusedVariables false
set_option linter.unusedSimpArgs false

namespace Go.V

set_option linter.unusedVariables false

/-- One row more: the images and what leads to them, as the spec makes them. -/
noncomputable def gst (p : Int) (f : Nat → Int) (i : Nat) (g : Nat × (Nat → Nat → Int) × (Nat → Nat → Int)) : Nat × (Nat → Nat → Int) × (Nat → Nat → Int) :=
  if fsn (rdk p g.2.1 (fun x => f (8 * i + x)) g.1) 8 < 8 then
    (g.1 + 1, snc g.2.1 g.1 (pl p (fun _ => 0) (inv p (rdk p g.2.1 (fun x => f (8 * i + x)) g.1 (fsn (rdk p g.2.1 (fun x => f (8 * i + x)) g.1) 8))) (rdk p g.2.1 (fun x => f (8 * i + x)) g.1)),
      snc g.2.2 g.1 (pl p (fun _ => 0) (inv p (rdk p g.2.1 (fun x => f (8 * i + x)) g.1 (fsn (rdk p g.2.1 (fun x => f (8 * i + x)) g.1) 8))) (rdw p g.2.1 g.2.2 (fun x => f (8 * i + x)) (bas i) (-1) g.1)))
  else g

noncomputable def gsr (p : Int) (f : Nat → Int) : Nat → Nat × (Nat → Nat → Int) × (Nat → Nat → Int)
  | 0 => (0, fun _ _ => 0, fun _ _ => 0)
  | i + 1 => gst p f i (gsr p f i)

end Go.V

/- Left tables, first places (the spec's). -/

namespace Go.V

structure Fx (Q : Prop) : Prop where
  out : Q

end Go.V

namespace Go.Proofs.YtkmfdhicjaccaaaGreat

open Go.V

variable [BW]

set_option linter.unusedSimpArgs false

set_option linter.unusedVariables false

set_option maxHeartbeats 4000000

/-- spec.l01First -/
def ir20 : Cd := (.seq (.reg [⟨some 1,none,.box 31 (.t 0)⟩,⟨some 2,none,.mov (.c (.int .i64 0))⟩]) (.seq (.reg [⟨some 3,none,.mov (.c (.int .i64 0))⟩]) (.seq (.block 0 (.loop (.seq (.seq (.reg [⟨some 4,none,.mov (.t 3)⟩,⟨some 5,none,.bin .lss (.t 4) (.c (.int .i64 8))⟩,⟨some 6,none,.mov (.t 5)⟩,⟨some 7,(some (6,true)),.mov (.t 3)⟩,⟨some 8,(some (6,true)),.ia 8 1 (.t 1) (.t 7)⟩,⟨some 9,(some (6,true)),.ld none (.t 8)⟩,⟨some 10,(some (6,true)),.bin .eql (.t 9) (.c (.int .u8 0))⟩,⟨some 11,none,.pick (.t 6) (.t 10) (.c (.bool false))⟩]) (.cond (.t 11) .skip (.exit 0))) (.block 1 (.reg [⟨some 12,none,.mov (.t 3)⟩,⟨some 13,none,.bin .add (.t 12) (.c (.int .i64 1))⟩,⟨some 3,none,.mov (.t 13)⟩]))))) (.seq (.reg [⟨some 14,none,.mov (.t 3)⟩,⟨some 2,none,.mov (.t 14)⟩]) .ret))))

set_option maxRecDepth 100000 in
theorem tr20 : trFn Tryz.prog Tryz.f20 = some (15, ir20, [.tmp 2]) := by kernel_rfl

theorem spec_l01First (v : Nat → Int) (H : Hp) (n : Nat) :
    FnS Tryz.prog 20 [.arr 8 (bys v)] H n (fun r H' _ => r = i64 (fsn v 8) ∧ H' = H) := by
  refine FnS.of_body Tryz.func20 tr20 (by simp) (fun hf => ?_)
  dsimp only [argEnv]
  unfold ir20
  (refine zG ?_)
  refine CS.iter 8 (fun i => [(3, i64 i), (1, ptr n 0)]) (fun i => (n, ⟨8, bys v, 31⟩) :: H) (fun i => Fx (∀ j, j < i → v j = 0)) (by (repeat first | exact trivial | refine And.intro rfl ?_)) (Drops.refl _ _) ⟨fun j hj => by omega⟩ ?_
  intro i n2 hi hn hJ
  (refine zG ?_)
  by_cases h2 : i < 8
  · rw [show decide ((i : Int) < 8) = true from decide_eq_true (by omega)]
    have hv1 : (bys v) i = .int .u8 (v i) := rfl
    (refine zG ?_)
    by_cases h3 : v i = 0
    · rw [show (v i == 0) = true by simpa using h3]
      (refine zG ?_)
      exact ⟨by omega, by (repeat first | exact trivial | refine And.intro rfl ?_), Drops.refl _ _, ⟨fun j hj => if e : j = i then by subst e; exact h3 else hJ.out j (by omega)⟩⟩
    · rw [show (v i == 0) = false by simpa using h3]
      (refine zG ?_)
      exact ⟨i64 i, H, rfl, by exact zD, by rw [fsn_eq h2 hJ.out h3], rfl⟩
  · obtain rfl : i = 8 := by omega
    rw [show decide (((8 : Nat) : Int) < 8) = false by decide]
    (refine zG ?_)
    exact ⟨i64 8, H, rfl, by exact zD, by rw [fsn_all hJ.out]; rfl, rfl⟩

end Go.Proofs.YtkmfdhicjaccaaaGreat

/- The spec's reduction of the rows of a table, one by one. -/

namespace Go.V

variable [BW]

set_option linter.unusedSimpArgs false

set_option linter.unusedVariables false

/-- A slice of m vectors, which lie in the block b. -/
def VL (H : Hp) (v : SV) (m : Nat) (I : Nat → Nat → Int) (b : Nat) : Prop :=
  ∃ o cap k, v = .slc b o m cap ∧ H.get b = some k ∧ o + cap * 8 ≤ k.size ∧ m ≤ cap ∧ ∀ i x, i < m → x < 8 → k.c (o + (i * 8 + x)) = .int .u8 (I i x)

theorem VL.keep {H H' : Hp} {v : SV} {m : Nat} {I : Nat → Nat → Int} {b : Nat} (h : VL H v m I b) (hg : H'.get b = H.get b) : VL H' v m I b := by
  obtain ⟨o, cap, k, h1, h2, h3⟩ := h
  exact ⟨o, cap, k, h1, hg.trans h2, h3⟩

theorem VL.slice {H : Hp} {v : SV} {m : Nat} {I : Nat → Nat → Int} {b : Nat} (h : VL H v m I b) : ∃ cap, sliceV H 8 v m cap (fun i => .int .u8 (I (i / 8) (i % 8))) := by
  obtain ⟨o, cap, k, h1, h2, h3, h4, h5⟩ := h
  refine ⟨cap, .inr ⟨b, o, k, h1, h2, h3, h4, fun i hi => ?_⟩⟩
  show _ = SV.int IntKind.u8 (I (i / 8) (i % 8))
  rw [← h5 (i / 8) (i % 8) (by omega) (by omega), show i / 8 * 8 + i % 8 = i by omega]

section

variable {P : Program} {N mm : Nat} {e : Env} {H : Hp} {n : Nat} {l : List Ins} {d : Option Nat} {K : Env → Hp → Nat → Prop}

/-- One more vector. -/
theorem RS.appV {t : TypeId} {x y : X} {v : SV} {m b b2 : Nat} {I : Nat → Nat → Int} {w : Nat → Int} {k2 : Blk} {z : Zs}
    (hx : x.ev e = some (.s v)) (hy : y.ev e = some (.s (.slc b2 0 1 1))) (hV : VL H v m I b) (hb2 : H.get b2 = some k2) (hs2 : k2.size = 8) (hc2 : ∀ q, q < 8 → k2.c q = .int .u8 (w q)) (hm : m ≤ 4000000) (hf : H.get n = none) (hbn : b < n)
    (h : ∀ v' b' H' n', VL H' v' (m + 1) (snc I m w) b' → (b' = b ∨ b' = n) → b' < n' → n ≤ n' → n' ≤ n + 1 → (∀ x, x ≠ b' → H'.get x = H.get x) → LS P N mm (.seq K) l (putD d (.s v') e) H' n') :
    LS P N mm (.seq K) (⟨d, none, .app t 8 8 z x y⟩ :: l) e H n := by
  obtain ⟨o, cap, k, rfl, hk, ho, hmc, hc⟩ := hV
  refine RS.app (len2 := 1) (cap2 := 1) (c := fun i => .int .u8 (I (i / 8) (i % 8))) (c2 := fun i => .int .u8 (w i)) hx hy (.inr ⟨b, o, k, rfl, hk, ho, hmc, fun i hi => ?_⟩) (.inr ⟨b2, 0, k2, rfl, hb2, by omega, Nat.le_refl _, fun i hi => by rw [Nat.zero_add]; exact hc2 i (by omega)⟩) (by omega) (by omega) (fun hle => ⟨fun b' o' k' he hk' => ?_, fun he => by cases he⟩) (fun hlt cap' hcap => ?_)
  · show _ = SV.int IntKind.u8 (I (i / 8) (i % 8))
    rw [← hc (i / 8) (i % 8) (by omega) (by omega), show i / 8 * 8 + i % 8 = i by omega]
  · cases he
    rw [hk] at hk'
    cases hk'
    refine h _ b _ n ⟨o, cap, _, rfl, Hp.get_set_self _ hk, ho, hle, fun i x hi hx => ?_⟩ (.inl rfl) hbn (Nat.le_refl _) (by omega) (fun x hx => Hp.get_set_other _ (fun q => hx q.symm))
    (try dsimp only)
    unfold splice snc
    by_cases e1 : i = m
    · subst e1
      rw [if_pos (by omega), if_pos rfl]
      congr 2; omega
    · rw [if_neg (by omega), if_neg e1]
      exact hc i x (by omega) hx
  · refine h _ n _ (n + 1) ⟨0, cap', _, rfl, Hp.get_eq _ _ _, by (try dsimp only); omega, hcap, fun i x hi hx => ?_⟩ (.inr rfl) (by omega) (by omega) (by omega) (fun x hx => Hp.get_ne _ _ (fun q => hx q.symm))
    (try dsimp only)
    unfold joinC snc
    rw [Nat.zero_add]
    by_cases e1 : i = m
    · subst e1
      rw [if_pos (by omega), if_neg (by omega), if_pos rfl]
      congr 2; omega
    · rw [if_pos (by omega), if_pos (by omega), if_neg e1]
      show SV.int IntKind.u8 (I ((i * 8 + x) / 8) ((i * 8 + x) % 8)) = _
      rw [show (i * 8 + x) / 8 = i by omega, show (i * 8 + x) % 8 = x by omega]

end

/-- What the loop over the rows of f knows. -/
structure SolS (H0 : Hp) (n0 : Nat) (ty : TypeId) (p : Int) (f : Nat → Int) (n i m kk : Nat) (I S Kr : Nat → Nat → Int) (v9 v10 v11 : SV) (b9 b10 b11 : Nat) (H1 : Hp) (n1 : Nat) : Prop where
  src : SRC p f n I S m i
  gs : gsr p f i = (m, I, S)
  l9 : VL H1 v9 m I b9
  l10 : VL H1 v10 m S b10
  l11 : VL H1 v11 kk Kr b11
  kki : kk ≤ i
  d1 : b9 ≠ b10
  d2 : b9 ≠ b11
  d3 : b10 ≠ b11
  g9 : n0 < b9 ∧ b9 < n1
  g10 : n0 < b10 ∧ b10 < n1
  g11 : n0 < b11 ∧ b11 < n1
  g5 : H1.get n0 = some ⟨64, bys f, ty⟩
  low : ∀ x, x < n0 → H1.get x = H0.get x
  fresh : ∀ x, n1 ≤ x → H1.get x = none

end Go.V

namespace Go.Proofs.YtkmfdhicjaccaaaGreat

open Go.V

variable [BW]

set_option linter.unusedSimpArgs false

set_option linter.unusedVariables false

set_option maxHeartbeats 4000000

theorem spec_l01AddN (p k : Int) (v w : Nat → Int) (H : Hp) (n : Nat) (hp : 2 ≤ p ∧ p ≤ 31) (hv : isBy 8 v) (hw : isBy 8 w) (hk : -100000 ≤ k ∧ k ≤ 100000) :
    FnS Tryz.prog 59 [i64 p, .arr 8 (bys v), .arr 8 (bys w), i64 k] H n (fun r H' _ => r = .arr 8 (bys (pl p v k w)) ∧ H' = H) := by
  refine FnS.of_body Tryz.func59 tr59 (by simp) (fun hf => ?_)
  dsimp only [argEnv]
  unfold ir59
  (refine zG ?_)
  refine CS.iter 8 (fun i => [(9, i64 i), (8, ptr (n + 2) 0), (6, ptr (n + 1) 0), (5, ptr n 0), (0, i64 p), (3, i64 k)])
    (fun i => (n + 2, ⟨8, bys (fun _ => 0), 31⟩) :: (n + 1, ⟨8, bys w, 31⟩) :: (n, ⟨8, bys (prt (pl p v k w) v i), 31⟩) :: H) (fun _ => True) (by (repeat first | exact trivial | refine And.intro rfl ?_))
    (Drops.keepc rfl rfl (fun _ _ => rfl) (Drops.keepc rfl rfl (fun _ _ => rfl) (by rw [prt_zero]; exact Drops.refl _ _))) trivial ?_
  intro i n1 hi hn _
  (refine zG ?_)
  refine zI ?_ ?_<;>intro h1
  · have hpi := prt_at (pl p v k w) v i
    have hvi := hv i (by omega)
    have hwi := hw i (by omega)
    have hm : -25500000 ≤ k * w i ∧ k * w i ≤ 25500000 := by
      rcases Int.le_total 0 k with h0 | h0
      · have := mulB h0 hk.2 hwi.1 hwi.2; omega
      · have := mulB (show 0 ≤ -k by omega) (show -k ≤ 100000 by omega) hwi.1 hwi.2
        rw [Int.neg_mul] at this; omega
    have hb := modB (v i + k * w i) hp.1
    have hpl : (prt (pl p v k w) v i i + k * w i) % p = pl p v k w i := by rw [hpi]; rfl
    have hplb : 0 ≤ pl p v k w i ∧ pl p v k w i < p := hb
    (refine zG ?_)
    refine LS.callQ (u8 (pl p v k w i)) rfl (fun n' hn' => (spec_l01Mod p (prt (pl p v k w) v i i + k * w i) _ _ hp.1 hp.2 (by omega)).mono (fun r H' _ _ h => by rw [hpl] at h; exact h)) ?_
    (repeat first|refine zG ?_|(refine LS.nilO ?_;intro nq hnq hltq;try refine zU ?_)|(refine MS.new ?_;intro bq hbq hbqf;try refine zU ?_)|(refine MS.nil ?_;intro nq hnq hltq;have hlq:=hltq _ _ (Hp.get_eq _ _ _);clear hltq;try refine zU ?_)|(refine LS.nilQ ?_;try with_reducible intro nq hnq;try refine zU ?_))
    exact ⟨by omega, by (repeat first | exact trivial | refine And.intro rfl ?_), Drops.keepc rfl rfl (fun _ _ => rfl) (Drops.keepc rfl rfl (fun _ _ => rfl) (Drops.keepc rfl rfl (fun q hq => prt_put _ _ _ _) (Drops.refl _ _))), trivial⟩
  · have : i = 8 := by omega
    subst this
    (refine zG ?_)
    exact ⟨.arr 8 (bys (pl p v k w)), H, conc_arr (fun q hq => congrArg (SV.int .u8) (by simp only [Nat.zero_add]; exact prt_all _ _ _ _ hq)), by exact zD, rfl, rfl⟩

end Go.Proofs.YtkmfdhicjaccaaaGreat

/- Inverses of vectors: what they are, and the spec's function. -/

namespace Go.V

open Classical in

/-- An algebra and a vector of it. -/
structure algW (p : Int) (a : Nat) (u m v : Nat → Int) : Prop where
  hp : isP p = true
  ha1 : 1 ≤ a
  ha : a ≤ 8
  hu : units p a u m
  has : assoc p a m
  ru : isRes p 8 u
  rv : isRes p 8 v

end Go.V

namespace Go.Proofs.YtkmfdhicjaccaaaGreat

open Go.V

variable [BW]

set_option linter.unusedSimpArgs false

set_option linter.unusedVariables false

set_option maxHeartbeats 4000000

end Go.Proofs.YtkmfdhicjaccaaaGreat

/- Systems of linear equations, the program's: their blocks, making them, one more equation. -/

namespace Go.V

variable [BW]

/-- A slice of m values of one cell each, which lie in the block b (no block if it is nil). -/
def SL (H : Hp) (v : SV) (m : Nat) (F : Nat → SV) (b : Nat) : Prop :=
  (v = .nils ∧ m = 0) ∨ ∃ o cap k, v = .slc b o m cap ∧ H.get b = some k ∧ o + cap ≤ k.size ∧ m ≤ cap ∧ ∀ i, i < m → k.c (o + i) = F i

theorem SL.same {H : Hp} {v : SV} {m : Nat} {F F' : Nat → SV} {b : Nat} (h : SL H v m F b) (hs : ∀ i, i < m → F i = F' i) : SL H v m F' b := by
  rcases h with h | ⟨o, cap, k, h1, h2, h3, h4, h5⟩
  · exact .inl h
  · exact .inr ⟨o, cap, k, h1, h2, h3, h4, fun i hi => by rw [h5 i hi, hs i hi]⟩

theorem SL.keep {H H' : Hp} {v : SV} {m : Nat} {F : Nat → SV} {b : Nat} (h : SL H v m F b) (hg : H'.get b = H.get b) : SL H' v m F b := by
  rcases h with h | ⟨o, cap, k, h1, h2, h3⟩
  · exact .inl h
  · exact .inr ⟨o, cap, k, h1, hg.trans h2, h3⟩

def snS (F : Nat → SV) (m : Nat) (v : SV) : Nat → SV := fun i => if i = m then v else F i

section

variable {P : Program} {N mm : Nat} {e : Env} {H : Hp} {n : Nat} {l : List Ins} {d : Option Nat} {K : Env → Hp → Nat → Prop}

theorem RS.appS {t : TypeId} {bytes : Nat} {x y : X} {v w : SV} {m b b2 : Nat} {F : Nat → SV} {k2 : Blk} {z : Zs}
    (hx : x.ev e = some (.s v)) (hy : y.ev e = some (.s (.slc b2 0 1 1))) (hV : SL H v m F b) (hb2 : H.get b2 = some k2) (hs2 : k2.size = 1) (hc2 : k2.c 0 = w) (hm : m ≤ 4000000) (hby : bytes ≤ 4000000) (hbn : b < n)
    (h : ∀ v' b' H' n', SL H' v' (m + 1) (snS F m w) b' → (b' = b ∨ b' = n) → b' < n' → n ≤ n' → n' ≤ n + 1 → (∀ x, x ≠ b' → H'.get x = H.get x) → LS P N mm (.seq K) l (putD d (.s v') e) H' n') :
    LS P N mm (.seq K) (⟨d, none, .app t 1 bytes z x y⟩ :: l) e H n := by
  have hy2 : sliceV H 1 (.slc b2 0 1 1) 1 1 (fun _ => w) := .inr ⟨b2, 0, k2, rfl, hb2, by omega, Nat.le_refl _, fun i hi => by (obtain rfl : i = 0 := by omega); exact hc2⟩
  have hby2 : (2 * (m + 1) + 768) * bytes ≤ 2 ^ 48 := Nat.le_trans (Nat.mul_le_mul (show 2 * (m + 1) + 768 ≤ 9000000 by omega) hby) (by decide)
  have new : ∀ (c : Nat → SV), (∀ i, i < m → c i = F i) → ∀ cap', m + 1 ≤ cap' → LS P N mm (.seq K) l (putD d (.s (.slc n 0 (m + 1) cap')) e) ((n, ⟨cap' * 1, joinC ((m + 1) * 1) (joinC (m * 1) c (fun _ => w)) (fun i => z.c (i % 1)), t⟩) :: H) (n + 1) := by
    intro c hc cap' hcap
    refine h _ n _ (n + 1) (.inr ⟨0, cap', _, rfl, Hp.get_eq _ _ _, by (try dsimp only); omega, hcap, fun i hi => ?_⟩) (.inr rfl) (by omega) (by omega) (by omega) (fun x hx => Hp.get_ne _ _ (fun q => hx q.symm))
    (try dsimp only)
    unfold joinC snS
    rw [Nat.zero_add, if_pos (by omega)]
    by_cases e1 : i = m
    · rw [if_neg (by omega), if_pos e1]
    · rw [if_pos (by omega), if_neg e1, hc i (by omega)]
  rcases hV with ⟨rfl, rfl⟩ | ⟨o, cap, k, rfl, hk, ho, hmc, hc⟩
  · refine RS.app (len := 0) (cap := 0) (len2 := 1) (cap2 := 1) (c := F) (c2 := fun _ => w) hx hy (.inl ⟨rfl, rfl, rfl⟩) hy2 hby2 (by omega) (fun hle => by omega) (fun hlt cap' hcap => new F (fun i hi => rfl) cap' hcap)
  · refine RS.app (len2 := 1) (cap2 := 1) (c := F) (c2 := fun _ => w) hx hy (.inr ⟨b, o, k, rfl, hk, by omega, hmc, fun i hi => hc i (by omega)⟩) hy2 hby2 (by omega) (fun hle => ⟨fun b' o' k' he hk' => ?_, fun he => by cases he⟩) (fun hlt cap' hcap => new F (fun i hi => rfl) cap' hcap)
    cases he
    rw [hk] at hk'
    cases hk'
    refine h _ b _ n (.inr ⟨o, cap, _, rfl, Hp.get_set_self _ hk, ho, hle, fun i hi => ?_⟩) (.inl rfl) hbn (Nat.le_refl _) (by omega) (fun x hx => Hp.get_set_other _ (fun q => hx q.symm))
    (try dsimp only)
    unfold splice snS
    by_cases e1 : i = m
    · rw [if_pos (by omega), if_pos e1]
    · rw [if_neg (by omega), if_neg e1, hc i (by omega)]

end

/-- A system: its block sb, the block rb of its rows' slice, the blocks bk of its rows, of which each has a slice with some capacity. -/
structure SY (H : Hp) (sb : Nat) (p : Int) (a m : Nat) (R : Nat → Nat → Int) (rb : Nat) (bk cp : Nat → Nat) (k : Blk) : Prop where
  g : H.get sb = some k
  s : k.size = 5
  c0 : k.c 0 = .int .i64 p
  c1 : k.c 1 = .int .i64 0
  c2 : k.c 2 = .int .i64 a
  rows : SL H (k.c 3) m (fun i => .slc (bk i) 0 (a + 1) (cp (bk i))) rb
  row : ∀ i, i < m → ∃ ki, H.get (bk i) = some ki ∧ a + 1 ≤ ki.size ∧ ∀ x, x < a + 1 → ki.c x = .int .u8 (R i x)
  qc : ∀ i, i < m → a + 1 ≤ cp (bk i)
  d1 : sb ≠ rb
  d2 : ∀ i, i < m → bk i ≠ sb ∧ bk i ≠ rb
  d3 : ∀ i j, i < m → j < m → bk i = bk j → i = j

end Go.V

namespace Go.Proofs.YtkmfdhicjaccaaaGreat

open Go.V

variable [BW]

set_option linter.unusedSimpArgs false

set_option linter.unusedVariables false

set_option maxHeartbeats 4000000

/-- impl.newSystem -/
def ir66 : Cd := (.seq (.reg [⟨some 4,none,.mov (.c .nil)⟩]) (.seq (.reg [⟨some 5,none,.mov (.t 0)⟩,⟨some 6,none,.build 2 [(2,(.int .i64 0))] [(0,1,(.t 5)),(1,1,(.c (.int .i64 0)))]⟩,⟨some 7,none,.mov (.t 1)⟩,⟨some 8,none,.build 5 [(3,(.int .i64 0)),(2,.nils)] [(0,2,(.t 6)),(2,1,(.t 7))]⟩,⟨some 9,none,.box 113 (.t 8)⟩,⟨some 4,none,.mov (.t 9)⟩]) .ret))

set_option maxRecDepth 100000 in
theorem tr66 : trFn Tryz.prog Tryz.f66 = some (10, ir66, [.tmp 4]) := by kernel_rfl

theorem impl_newSystem (p : Int) (a : Nat) (H : Hp) (n : Nat) :
    FnS Tryz.prog 66 [i64 p, i64 a] H n (fun r H' n' => r = ptr n 0 ∧ n < n' ∧ ∃ k : Blk, H' = (n, k) :: H ∧ k.size = 5 ∧ k.c 0 = .int .i64 p ∧ k.c 1 = .int .i64 0 ∧ k.c 2 = .int .i64 a ∧ k.c 3 = .nils ∧ k.c 4 = .nils) := by
  refine FnS.of_body Tryz.func66 tr66 (by simp) (fun hf => ?_)
  dsimp only [argEnv]
  unfold ir66
  (refine zG ?_)
  exact ⟨ptr n 0, _, rfl, Drops.refl _ _, rfl, by omega, _, rfl, rfl, rfl, rfl, rfl, rfl, rfl⟩

end Go.Proofs.YtkmfdhicjaccaaaGreat

/- Systems of linear equations, the program's: one place cleared. -/

namespace Go.V

theorem SY.put {H : Hp} {sb : Nat} {p : Int} {a m : Nat} {R : Nat → Nat → Int} {rb : Nat} {bk cp : Nat → Nat} {ks kj : Blk} {j x0 : Nat} {v : Int} (h : SY H sb p a m R rb bk cp ks) (hj : j < m) (gj : H.get (bk j) = some kj) {c' : Nat → SV} (hc : c' = put1 kj.c x0 (.int .u8 v)) :
    SY (H.set (bk j) c') sb p a m (fun k x => if k = j ∧ x = x0 then v else R k x) rb bk cp ks := by
  have hd := h.d2 j hj
  refine { h with g := by rw [Hp.get_set_other _ hd.1]; exact h.g, rows := h.rows.keep (Hp.get_set_other _ hd.2), row := fun i hi => ?_ }
  by_cases e : i = j
  · subst e
    obtain ⟨k2, g2, s2, c2⟩ := h.row i hi
    rw [gj] at g2; cases g2
    refine ⟨_, Hp.get_set_self _ gj, s2, fun x hx => ?_⟩
    (try dsimp only)
    rw [hc]
    unfold put1
    by_cases e2 : x = x0
    · rw [if_pos e2, if_pos ⟨rfl, e2⟩]
    · rw [if_neg e2, if_neg (fun q => e2 q.2)]; exact c2 x hx
  · obtain ⟨k2, g2, s2, c2⟩ := h.row i hi
    refine ⟨k2, by rw [Hp.get_set_other _ (fun q => e (h.d3 i j hi hj q.symm))]; exact g2, s2, fun x hx => ?_⟩
    rw [if_neg (fun q => e q.1)]; exact c2 x hx

theorem SY.same {H : Hp} {sb : Nat} {p : Int} {a m : Nat} {R R' : Nat → Nat → Int} {rb : Nat} {bk cp : Nat → Nat} {ks : Blk} (h : SY H sb p a m R rb bk cp ks) (hr : ∀ k x, k < m → x < a + 1 → R k x = R' k x) : SY H sb p a m R' rb bk cp ks := by
  refine { h with row := fun i hi => ?_ }
  obtain ⟨k2, g2, s2, c2⟩ := h.row i hi
  exact ⟨k2, g2, s2, fun x hx => by rw [← hr i x hi hx]; exact c2 x hx⟩

/-- Only rows have changed. -/
def Frm (H H' : Hp) (m : Nat) (bk : Nat → Nat) : Prop := ∀ x, (∀ k, k < m → x ≠ bk k) → H'.get x = H.get x

theorem Frm.set {H H' : Hp} {m : Nat} {bk : Nat → Nat} (h : Frm H H' m bk) {j : Nat} (hj : j < m) (c : Nat → SV) : Frm H (H'.set (bk j) c) m bk := fun x hx => by
  rw [Hp.get_set_other _ (fun q => hx j hj q.symm)]; exact h x hx

end Go.V

namespace Go.Proofs.YtkmfdhicjaccaaaGreat

open Go.V

variable [BW]

set_option linter.unusedSimpArgs false

set_option linter.unusedVariables false

set_option maxHeartbeats 4000000

/-- (*impl.system).clear -/
def ir99 : Cd := (.seq (.reg [⟨some 15,none,.mov (.t 0)⟩,⟨some 16,none,.ck (.t 15)⟩,⟨some 17,none,.fa 3 (.t 16)⟩,⟨some 18,none,.ld none (.t 17)⟩,⟨some 19,none,.mov (.t 1)⟩,⟨some 20,none,.isl 1 (.t 18) (.t 19)⟩,⟨some 21,none,.ld none (.t 20)⟩,⟨some 6,none,.mov (.t 21)⟩]) (.seq (.drw true [8] [⟨some 22,none,.mov (.t 0)⟩,⟨some 23,none,.ck (.t 22)⟩,⟨some 24,none,.fa 0 (.t 23)⟩,⟨some 25,none,.ld (some 2) (.t 24)⟩,⟨some 26,none,.mov (.t 6)⟩,⟨some 27,none,.mov (.t 2)⟩,⟨some 28,none,.isl 1 (.t 26) (.t 27)⟩,⟨some 29,none,.ld none (.t 28)⟩,⟨some 30,none,.call 134 [(.t 25),(.t 29)]⟩,⟨some 7,none,.mov (.t 30)⟩]) (.seq (.seq (.reg [⟨some 31,none,.mov (.t 6)⟩,⟨some 32,none,.len (.t 31)⟩,⟨some 33,none,.mov (.c (.int .i64 0))⟩]) (.block 0 (.loop (.seq (.reg [⟨some 34,none,.bin .lss (.t 33) (.t 32)⟩]) (.seq (.cond (.t 34) .skip (.exit 0)) (.seq (.block 1 (.seq (.reg [⟨some 35,none,.mov (.t 33)⟩,⟨some 36,none,.isl 1 (.t 31) (.t 33)⟩,⟨some 37,none,.ld none (.t 36)⟩,⟨some 8,none,.mov (.t 35)⟩,⟨some 9,none,.mov (.t 37)⟩]) (.reg [⟨some 38,none,.mov (.t 6)⟩,⟨some 39,none,.mov (.t 8)⟩,⟨some 40,none,.mov (.t 0)⟩,⟨some 41,none,.ck (.t 40)⟩,⟨some 42,none,.fa 0 (.t 41)⟩,⟨some 43,none,.ld (some 2) (.t 42)⟩,⟨some 44,none,.mov (.t 7)⟩,⟨some 45,none,.mov (.t 9)⟩,⟨some 46,none,.cv .i64 (.t 45)⟩,⟨some 47,none,.bin .mul (.t 44) (.t 46)⟩,⟨some 48,none,.call 84 [(.t 43),(.t 47)]⟩,⟨some 49,none,.isl 1 (.t 38) (.t 39)⟩,⟨none,none,.st 1 (.t 49) (.t 48)⟩]))) (.reg [⟨some 50,none,.bin .add (.t 33) (.c (.int .i64 1))⟩,⟨some 33,none,.mov (.t 50)⟩]))))))) (.seq (.reg [⟨some 51,none,.mov (.t 0)⟩,⟨some 52,none,.ck (.t 51)⟩,⟨some 53,none,.fa 3 (.t 52)⟩,⟨some 54,none,.ld none (.t 53)⟩,⟨some 55,none,.len (.t 54)⟩,⟨some 56,none,.mov (.c (.int .i64 0))⟩]) (.block 2 (.loop (.seq (.reg [⟨some 57,none,.bin .lss (.t 56) (.t 55)⟩]) (.seq (.cond (.t 57) .skip (.exit 2)) (.seq (.block 3 (.seq (.reg [⟨some 58,none,.mov (.t 56)⟩,⟨some 59,none,.isl 1 (.t 54) (.t 56)⟩,⟨some 60,none,.ld none (.t 59)⟩,⟨some 10,none,.mov (.t 58)⟩,⟨some 11,none,.mov (.t 60)⟩]) (.seq (.seq (.reg [⟨some 61,none,.mov (.t 10)⟩,⟨some 62,none,.mov (.t 1)⟩,⟨some 63,none,.bin .eql (.t 61) (.t 62)⟩,⟨some 64,none,.mov (.t 63)⟩,⟨some 65,(some (64,false)),.mov (.t 11)⟩,⟨some 66,(some (64,false)),.mov (.t 2)⟩,⟨some 67,(some (64,false)),.isl 1 (.t 65) (.t 66)⟩,⟨some 68,(some (64,false)),.ld none (.t 67)⟩,⟨some 69,(some (64,false)),.bin .eql (.t 68) (.c (.int .u8 0))⟩,⟨some 70,none,.pick (.t 64) (.c (.bool true)) (.t 69)⟩]) (.cond (.t 70) (.exit 3) .skip)) (.seq (.reg [⟨some 71,none,.mov (.t 11)⟩,⟨some 72,none,.mov (.t 2)⟩,⟨some 73,none,.isl 1 (.t 71) (.t 72)⟩,⟨some 74,none,.ld none (.t 73)⟩,⟨some 75,none,.cv .i64 (.t 74)⟩,⟨some 12,none,.mov (.t 75)⟩]) (.seq (.reg [⟨some 76,none,.mov (.t 6)⟩,⟨some 77,none,.len (.t 76)⟩,⟨some 78,none,.mov (.c (.int .i64 0))⟩]) (.block 4 (.loop (.seq (.reg [⟨some 79,none,.bin .lss (.t 78) (.t 77)⟩]) (.seq (.cond (.t 79) .skip (.exit 4)) (.seq (.block 5 (.seq (.reg [⟨some 80,none,.mov (.t 78)⟩,⟨some 81,none,.isl 1 (.t 76) (.t 78)⟩,⟨some 82,none,.ld none (.t 81)⟩,⟨some 13,none,.mov (.t 80)⟩,⟨some 14,none,.mov (.t 82)⟩]) (.drw true [18] [⟨some 83,none,.mov (.t 11)⟩,⟨some 84,none,.mov (.t 13)⟩,⟨some 85,none,.mov (.t 0)⟩,⟨some 86,none,.ck (.t 85)⟩,⟨some 87,none,.fa 0 (.t 86)⟩,⟨some 88,none,.ld (some 2) (.t 87)⟩,⟨some 89,none,.mov (.t 11)⟩,⟨some 90,none,.mov (.t 13)⟩,⟨some 91,none,.isl 1 (.t 89) (.t 90)⟩,⟨some 92,none,.ld none (.t 91)⟩,⟨some 93,none,.cv .i64 (.t 92)⟩,⟨some 94,none,.mov (.t 12)⟩,⟨some 95,none,.mov (.t 14)⟩,⟨some 96,none,.cv .i64 (.t 95)⟩,⟨some 97,none,.bin .mul (.t 94) (.t 96)⟩,⟨some 98,none,.bin .sub (.t 93) (.t 97)⟩,⟨some 99,none,.call 84 [(.t 88),(.t 98)]⟩,⟨some 100,none,.isl 1 (.t 83) (.t 84)⟩,⟨none,none,.st 1 (.t 100) (.t 99)⟩]))) (.reg [⟨some 101,none,.bin .add (.t 78) (.c (.int .i64 1))⟩,⟨some 78,none,.mov (.t 101)⟩]))))))))))) (.reg [⟨some 102,none,.bin .add (.t 56) (.c (.int .i64 1))⟩,⟨some 56,none,.mov (.t 102)⟩]))))))))))

set_option maxRecDepth 100000 in
theorem tr99 : trFn Tryz.prog Tryz.f99 = some (103, ir99, []) := by kernel_rfl

theorem system_clear (p : Int) (a m at' c : Nat) (R : Nat → Nat → Int) (sb rb : Nat) (bk cp : Nat → Nat) (ks : Blk) (H : Hp) (n : Nat) (hp : isP p = true) (ha : a ≤ 8) (hm : m ≤ 2000000) (hat : at' < m) (hc : c ≤ a)
    (hS : SY H sb p a m R rb bk cp ks) (hR : ∀ k x, k < m → x < a + 1 → 0 ≤ R k x ∧ R k x < p) (h0 : R at' c ≠ 0) :
    FnS Tryz.prog 99 [ptr sb 0, i64 at', i64 c] H n (fun r H' n' => r = .tup [] ∧ SY H' sb p a m (clr p R at' c) rb bk cp ks ∧ Frm H H' m bk) := by
  have hb := isP_le hp
  obtain ⟨gs, ss, s0, s1, s2, srow, hrow, qc, d1, d2, d3⟩ := id hS
  have hRc := hR at' c hat (by omega)
  have hfld : ∀ q, q < 2 → ks.c q = fldC p 0 q := fun q hq => by
    rcases (show q = 0 ∨ q = 1 by omega) with rfl | rfl
    · exact s0
    · exact s1
  rcases srow with ⟨_, rfl⟩ | ⟨ro, rcap, rk, r3, rg, rs, rm, rc⟩
  · omega
  have r3' : ks.c (0 + 3) = .slc rb ro m rcap := r3
  have rc1 : rk.c (ro + at' * 1) = .slc (bk at') 0 (a + 1) (cp (bk at')) := by rw [Nat.mul_one]; exact rc at' hat
  obtain ⟨kt, gt, st, ct⟩ := hrow at' hat
  have ct1 : kt.c (0 + c * 1) = .int .u8 (R at' c) := by rw [Nat.zero_add, Nat.mul_one]; exact ct c (by omega)
  have hRm : R at' c % p ≠ 0 := by rw [modSelf hRc]; exact h0
  obtain ⟨V, hV⟩ : ∃ V, V = inv p (R at' c) := ⟨_, rfl⟩
  have hVb : 0 ≤ V ∧ V ≤ 31 := by have := inv_spec hp hRm; rw [← hV] at this; omega
  refine FnS.of_body Tryz.func99 tr99 (by simp) (fun hf => ?_)
  dsimp only [argEnv]
  unfold ir99
  have hsn := getlt hf gs
  (repeat first|refine zG ?_|(refine LS.nilO ?_;intro nq hnq hltq;try refine zU ?_)|(refine MS.new ?_;intro bq hbq hbqf;try refine zU ?_)|(refine MS.nil ?_;intro nq hnq hltq;have hlq:=hltq _ _ (Hp.get_eq _ _ _);clear hltq;try refine zU ?_)|(refine LS.nilQ ?_;try with_reducible intro nq hnq;try refine zU ?_))
  refine RS.call rfl ((FnS.args (concs_cons (conc_arr hfld) rfl) (field_inverse p 0 (R at' c) _ _ hp (by omega) hRm)).mono ?_)
  rintro r H n1 hn1 ⟨rfl, rfl⟩
  (refine zG ?_)
  refine CS.iterJ (a + 1) (fun i => [(33, i64 (i : Nat)), (32, i64 ((a + 1 : Nat) : Int)), (31, .s (.slc (bk at') 0 (a + 1) (cp (bk at')))), (6, .s (.slc (bk at') 0 (a + 1) (cp (bk at')))), (7, i64 V), (0, ptr sb 0), (1, i64 at'), (2, i64 c)])
    (fun i H' _ => SY H' sb p a m (fun k x => if k = at' ∧ x < i then V * R at' x % p else R k x) rb bk cp ks ∧ Frm H H' m bk) (by rw [hV]; (repeat first | exact trivial | refine And.intro rfl ?_)) ⟨hS.same (fun k x _ _ => by rw [if_neg (by omega)]), fun x _ => rfl⟩ ?_
  rintro i n2 H2 hi hn2 ⟨hS2, hF2⟩
  have gs2 := hS2.g
  obtain ⟨kt2, gt2, st2, ct2⟩ := hS2.row at' hat
  (refine zG ?_)
  refine zI ?_ ?_<;>intro h3
  · have ct3 : kt2.c (0 + i * 1) = .int .u8 (R at' i) := by
      have := ct2 i (by omega)
      rw [if_neg (by omega)] at this
      rw [Nat.zero_add, Nat.mul_one]; exact this
    have hRi := hR at' i hat (by omega)
    have hmul := mulB hVb.1 hVb.2 hRi.1 (show R at' i ≤ 31 by omega)
    (refine zG ?_)
    refine RS.call rfl ((FnS.args (concs_cons (conc_arr hfld) rfl) (field_mod p 0 (V * R at' i) _ _ hb.1 hb.2 (by omega))).mono ?_)
    rintro r H2 n3 hn3 ⟨rfl, rfl⟩
    (refine zG ?_)
    refine ⟨by omega, by (repeat first | exact trivial | refine And.intro rfl ?_), _, Drops.refl _ _, (hS2.put (x0 := i) (v := V * R at' i % p) hat gt2 (by rw [Nat.zero_add, Nat.mul_one])).same (fun k x _ _ => ?_), hF2.set hat _⟩
    by_cases e1 : k = at'
    · subst e1
      by_cases e2 : x = i
      · subst e2; rw [if_pos ⟨rfl, rfl⟩, if_pos ⟨rfl, by omega⟩]
      · rw [if_neg (fun q => e2 q.2)]
        by_cases e3 : x < i
        · rw [if_pos ⟨rfl, e3⟩, if_pos ⟨rfl, by omega⟩]
        · rw [if_neg (fun q => e3 q.2), if_neg (by omega)]
    · rw [if_neg (fun q => e1 q.1), if_neg (fun q => e1 q.1), if_neg (fun q => e1 q.1)]
  · obtain rfl : i = a + 1 := by omega
    have hS3 : SY H2 sb p a m (fun k x => if k = at' ∨ k < 0 then clr p R at' c k x else R k x) rb bk cp ks := hS2.same (fun k x _ hx => by
      by_cases e1 : k = at'
      · rw [if_pos ⟨e1, hx⟩, if_pos (.inl e1)]; unfold clr; rw [if_pos e1, hV]
      · rw [if_neg (fun q => e1 q.1), if_neg (by omega)])
    have r3'' : ks.c (0 + 3) = .slc rb ro m rcap := r3
    (refine zG ?_)
    refine CS.iterJ m (fun k => [(56, i64 (k : Nat)), (55, i64 (m : Nat)), (54, .s (.slc rb ro m rcap)), (6, .s (.slc (bk at') 0 (a + 1) (cp (bk at')))), (0, ptr sb 0), (1, i64 at'), (2, i64 c)])
      (fun k H' _ => SY H' sb p a m (fun j x => if j = at' ∨ j < k then clr p R at' c j x else R j x) rb bk cp ks ∧ Frm H H' m bk) (by (repeat first | exact trivial | refine And.intro rfl ?_)) ⟨hS3, hF2⟩ ?_
    rintro k n3 H3 hk hn3 ⟨hS4, hF4⟩
    have gs4 := hS4.g
    have grb4 : H3.get rb = some rk := by rw [hF4 rb (fun j hj q => (d2 j hj).2 q.symm)]; exact rg
    (refine zG ?_)
    refine zI ?_ ?_<;>intro h4
    · have rc2 : rk.c (ro + k * 1) = .slc (bk k) 0 (a + 1) (cp (bk k)) := by rw [Nat.mul_one]; exact rc k (by omega)
      obtain ⟨kk, gk, sk, ck⟩ := hS4.row k (by omega)
      (refine zG ?_)
      refine RS.sp (t := 64) rfl (fun h5 => ?_) (fun h5 => ?_) <;> (try simp only [tb_eq, tb_eqF, decide_eq_true_eq, decide_eq_false_iff_not, beq_iff_eq, bne_iff_ne, ne_eq, Decidable.not_not, beq_eq_false_iff_ne, bne_eq_false_iff_eq, Bool.not_eq_true', Bool.not_eq_false', Bool.not_eq_eq_eq_not, Bool.not_true, Bool.not_false] at h5)
      · (refine zG ?_)
        refine ⟨by omega, by (repeat first | exact trivial | refine And.intro rfl ?_), H3, Drops.refl _ _, hS4.same (fun j x _ _ => ?_), hF4⟩
        by_cases e1 : j = at' ∨ j < k
        · rw [if_pos e1, if_pos (by omega)]
        · rw [if_neg e1, if_neg (by omega)]
      · have hRk := fun x (hx : x < a + 1) => hR k x (by omega) hx
        have ck0 : ∀ x, x < a + 1 → kk.c x = .int .u8 (R k x) := fun x hx => by
          rw [ck x hx, if_neg (by omega)]
        have ck1 : kk.c (0 + c * 1) = .int .u8 (R k c) := by rw [Nat.zero_add, Nat.mul_one]; exact ck0 c (by omega)
        (refine zG ?_)
        refine zI ?_ ?_<;>intro h6
        · (refine zG ?_)
          refine ⟨by omega, by (repeat first | exact trivial | refine And.intro rfl ?_), H3, Drops.refl _ _, hS4.same (fun j x _ hx => ?_), hF4⟩
          by_cases e1 : j = at' ∨ j < k
          · rw [if_pos e1, if_pos (by omega)]
          · by_cases e2 : j = k
            · subst e2
              rw [if_neg e1, if_pos (by omega)]
              unfold clr
              rw [if_neg (by omega), h6, Int.zero_mul, Int.sub_zero, modSelf (hRk x hx)]
            · rw [if_neg e1, if_neg (by omega)]
        · have hRkc := hRk c (by omega)
          (refine zG ?_)
          refine CS.iterJ (a + 1) (fun j => [(78, i64 (j : Nat)), (77, i64 ((a + 1 : Nat) : Int)), (76, .s (.slc (bk at') 0 (a + 1) (cp (bk at')))), (12, i64 (R k c)), (11, .s (.slc (bk k) 0 (a + 1) (cp (bk k)))), (56, i64 (k : Nat)), (55, i64 (m : Nat)), (54, .s (.slc rb ro m rcap)), (6, .s (.slc (bk at') 0 (a + 1) (cp (bk at')))), (0, ptr sb 0), (1, i64 at'), (2, i64 c)])
            (fun j H' _ => SY H' sb p a m (fun i x => if i = k ∧ x < j then clr p R at' c k x else if i = at' ∨ i < k then clr p R at' c i x else R i x) rb bk cp ks ∧ Frm H H' m bk) (by (repeat first | exact trivial | refine And.intro rfl ?_)) ⟨hS4.same (fun i x _ _ => by rw [if_neg (show ¬(i = k ∧ x < 0) by omega)]), hF4⟩ ?_
          rintro j n5 H5 hj hn5 ⟨hS5, hF5⟩
          have gs5 := hS5.g
          obtain ⟨kt5, gt5, st5, ct5⟩ := hS5.row at' hat
          obtain ⟨kk5, gk5, sk5, ck5⟩ := hS5.row k (by omega)
          (refine zG ?_)
          refine zI ?_ ?_<;>intro h7
          · obtain ⟨T, hT⟩ : ∃ T, T = clr p R at' c at' j := ⟨_, rfl⟩
            have hTb : 0 ≤ T ∧ T < p := by rw [hT]; unfold clr; rw [if_pos rfl]; exact modB _ hb.1
            have ct6 : kt5.c (0 + j * 1) = .int .u8 T := by
              rw [Nat.zero_add, Nat.mul_one, ct5 j (by omega), if_neg (by omega), if_pos (.inl rfl), hT]
            have ck6 : kk5.c (0 + j * 1) = .int .u8 (R k j) := by
              rw [Nat.zero_add, Nat.mul_one, ck5 j (by omega), if_neg (by omega), if_neg (by omega)]
            have hRkj := hRk j (by omega)
            have hmul := mulB hRkc.1 (show R k c ≤ 31 by omega) hTb.1 (show T ≤ 31 by omega)
            (refine zG ?_)
            refine LS.callQ (u8 ((R k j - R k c * T) % p)) rfl (fun n' hn' => FnS.args (concs_cons (conc_arr hfld) rfl) (field_mod p 0 (R k j - R k c * T) _ _ hb.1 hb.2 (by omega))) ?_
            (repeat first|refine zG ?_|(refine LS.nilO ?_;intro nq hnq hltq;try refine zU ?_)|(refine MS.new ?_;intro bq hbq hbqf;try refine zU ?_)|(refine MS.nil ?_;intro nq hnq hltq;have hlq:=hltq _ _ (Hp.get_eq _ _ _);clear hltq;try refine zU ?_)|(refine LS.nilQ ?_;try with_reducible intro nq hnq;try refine zU ?_))
            refine ⟨by omega, by (repeat first | exact trivial | refine And.intro rfl ?_), _, Drops.refl _ _, (hS5.put (x0 := j) (v := (R k j - R k c * T) % p) (by omega) gk5 (by rw [Nat.zero_add, Nat.mul_one])).same (fun i x _ _ => ?_), hF5.set (by omega) _⟩
            by_cases e1 : i = k
            · subst e1
              by_cases e2 : x = j
              · subst e2; rw [if_pos ⟨rfl, rfl⟩, if_pos ⟨rfl, by omega⟩, hT]; unfold clr; rw [if_pos rfl, if_neg (by omega)]
              · rw [if_neg (fun q => e2 q.2)]
                by_cases e3 : x < j
                · rw [if_pos ⟨rfl, e3⟩, if_pos ⟨rfl, by omega⟩]
                · rw [if_neg (fun q => e3 q.2), if_neg (show ¬(i = i ∧ x < j + 1) by omega)]
            · rw [if_neg (show ¬(i = k ∧ x = j) from fun q => e1 q.1), if_neg (show ¬(i = k ∧ x < j) from fun q => e1 q.1), if_neg (show ¬(i = k ∧ x < j + 1) from fun q => e1 q.1)]
          · obtain rfl : j = a + 1 := by omega
            (refine zG ?_)
            refine ⟨by omega, by (repeat first | exact trivial | refine And.intro rfl ?_), H5, Drops.refl _ _, hS5.same (fun i x _ hx => ?_), hF5⟩
            by_cases e1 : i = k
            · rw [if_pos ⟨e1, hx⟩, if_pos (by omega), e1]
            · rw [if_neg (fun q => e1 q.1)]
              by_cases e2 : i = at' ∨ i < k
              · rw [if_pos e2, if_pos (by omega)]
              · rw [if_neg e2, if_neg (by omega)]
    · obtain rfl : k = m := by omega
      (refine zG ?_)
      exact ⟨.tup [], H3, rfl, Drops.refl _ _, rfl, hS4.same (fun j x hj _ => by rw [if_pos (.inr hj)]), hF4⟩

end Go.Proofs.YtkmfdhicjaccaaaGreat

/- Systems of linear equations, the program's: the solution. -/

namespace Go.V

theorem tb_not_eq {x : Int} : tb (x ≠ 0) = (x != 0) := by
  by_cases h : x = 0
  · rw [tb_false (fun q => q h)]; simp [h]
  · rw [tb_true h]; simp [h]

end Go.V

namespace Go.Proofs.YtkmfdhicjaccaaaGreat

open Go.V

variable [BW]

set_option linter.unusedSimpArgs false

set_option linter.unusedVariables false

set_option maxHeartbeats 4000000

/-- (*impl.system).solve$1 -/
def ir98 : Cd := (.seq (.reg [⟨some 3,none,.mov (.c (.bool false))⟩]) (.seq (.reg [⟨some 4,none,.mov (.t 0)⟩,⟨some 5,none,.ld none (.t 1)⟩,⟨some 6,none,.isl 1 (.t 4) (.t 5)⟩,⟨some 7,none,.ld none (.t 6)⟩,⟨some 8,none,.bin .neq (.t 7) (.c (.int .u8 0))⟩,⟨some 3,none,.mov (.t 8)⟩]) .ret))

set_option maxRecDepth 100000 in
theorem tr98 : trFn Tryz.prog Tryz.f98 = some (9, ir98, [.tmp 3]) := by kernel_rfl

theorem system_solve_1 (R : Nat → Int) (a c b bc cp : Nat) (kr kc : Blk) (H : Hp) (n : Nat) (gr : H.get b = some kr) (sr : a + 1 ≤ kr.size) (cr : ∀ x, x < a + 1 → kr.c x = .int .u8 (R x)) (hc : c ≤ a)
    (gc : H.get bc = some kc) (sc : kc.size = 1) (cc : kc.c 0 = .int .i64 c) :
    FnS Tryz.prog 98 [.s (.slc b 0 (a + 1) cp), ptr bc 0] H n (fun r H' _ => r = bl (tb (R c ≠ 0)) ∧ H' = H) := by
  have cr1 : kr.c (0 + c * 1) = .int .u8 (R c) := by rw [Nat.zero_add, Nat.mul_one]; exact cr c (by omega)
  refine FnS.of_body Tryz.func98 tr98 (by simp) (fun hf => ?_)
  dsimp only [argEnv]
  unfold ir98
  (refine zG ?_)
  exact ⟨bl (tb (R c ≠ 0)), H, by rw [tb_not_eq], by exact zD, rfl, rfl⟩

/-- (*impl.system).solve$2 -/
def ir101 : Cd := (.seq (.reg [⟨some 3,none,.mov (.c (.bool false))⟩]) (.seq (.reg [⟨some 4,none,.mov (.t 0)⟩,⟨some 5,none,.ld none (.t 1)⟩,⟨some 6,none,.ck (.t 5)⟩,⟨some 7,none,.fa 2 (.t 6)⟩,⟨some 8,none,.ld none (.t 7)⟩,⟨some 9,none,.isl 1 (.t 4) (.t 8)⟩,⟨some 10,none,.ld none (.t 9)⟩,⟨some 11,none,.bin .neq (.t 10) (.c (.int .u8 0))⟩,⟨some 3,none,.mov (.t 11)⟩]) .ret))

set_option maxRecDepth 100000 in
theorem tr101 : trFn Tryz.prog Tryz.f101 = some (12, ir101, [.tmp 3]) := by kernel_rfl

theorem system_solve_2 (R : Nat → Int) (a b bs sb cp : Nat) (kr kb ks : Blk) (H : Hp) (n : Nat) (gr : H.get b = some kr) (sr : a + 1 ≤ kr.size) (cr : ∀ x, x < a + 1 → kr.c x = .int .u8 (R x))
    (gb : H.get bs = some kb) (s1 : kb.size = 1) (c1 : kb.c 0 = .ptr sb 0) (gs : H.get sb = some ks) (s5 : ks.size = 5) (c2 : ks.c 2 = .int .i64 a) :
    FnS Tryz.prog 101 [.s (.slc b 0 (a + 1) cp), ptr bs 0] H n (fun r H' _ => r = bl (tb (R a ≠ 0)) ∧ H' = H) := by
  have cr1 : kr.c (0 + a * 1) = .int .u8 (R a) := by rw [Nat.zero_add, Nat.mul_one]; exact cr a (by omega)
  have c2' : ks.c (0 + 2) = .int .i64 a := c2
  refine FnS.of_body Tryz.func101 tr101 (by simp) (fun hf => ?_)
  dsimp only [argEnv]
  unfold ir101
  (refine zG ?_)
  exact ⟨bl (tb (R a ≠ 0)), H, by rw [tb_not_eq], by exact zD, rfl, rfl⟩

/-- slices.IndexFunc[[][]byte,[]byte] -/
def ir97 : Cd := (.seq (.reg [⟨some 4,none,.mov (.c (.int .i64 0))⟩]) (.seq (.seq (.reg [⟨some 6,none,.mov (.t 0)⟩,⟨some 7,none,.len (.t 6)⟩,⟨some 8,none,.mov (.c (.int .i64 0))⟩]) (.block 0 (.loop (.seq (.reg [⟨some 9,none,.bin .lss (.t 8) (.t 7)⟩]) (.seq (.cond (.t 9) .skip (.exit 0)) (.seq (.block 1 (.seq (.reg [⟨some 10,none,.mov (.t 8)⟩,⟨some 5,none,.mov (.t 10)⟩]) (.seq (.reg [⟨some 11,none,.mov (.t 1)⟩,⟨some 12,none,.mov (.t 0)⟩,⟨some 13,none,.mov (.t 5)⟩,⟨some 14,none,.isl 1 (.t 12) (.t 13)⟩,⟨some 15,none,.ld none (.t 14)⟩,⟨some 16,none,.callv (.t 11) [(.t 15)]⟩]) (.cond (.t 16) (.seq (.reg [⟨some 17,none,.mov (.t 5)⟩,⟨some 4,none,.mov (.t 17)⟩]) .ret) .skip)))) (.reg [⟨some 18,none,.bin .add (.t 8) (.c (.int .i64 1))⟩,⟨some 8,none,.mov (.t 18)⟩]))))))) (.seq (.reg [⟨some 4,none,.mov (.c (.int .i64 (-1)))⟩]) .ret)))

set_option maxRecDepth 100000 in
theorem tr97 : trFn Tryz.prog Tryz.f97 = some (19, ir97, [.tmp 4]) := by kernel_rfl

theorem slices_IndexFuncR (Q : Nat → Prop) (F : FuncId) (post : List SV) (rb o len cap : Nat) (hl : len ≤ 4000000) (kr : Blk) (E : Nat → SV) (H : Hp) (n : Nat) (grb : H.get rb = some kr) (hs : o + len ≤ kr.size) (hE : ∀ i, i < len → kr.c (o + i) = E i)
    (hF : ∀ i n' : Nat, i < len → n ≤ n' → FnS Tryz.prog F ([.s (E i)] ++ post.map .s) H n' (fun r H' _ => r = bl (tb (Q i)) ∧ H' = H)) :
    FnS Tryz.prog 97 [.s (.slc rb o len cap), .s (.fn F [] post)] H n (fun r H' _ => (∃ x : Int, r = i64 x ∧ ((∃ i : Nat, x = i ∧ i < len ∧ Q i ∧ ∀ j, j < i → ¬Q j) ∨ (x = -1 ∧ ∀ j, j < len → ¬Q j))) ∧ H' = H) := by
  refine FnS.of_body Tryz.func97 tr97 (by simp) (fun hf => ?_)
  dsimp only [argEnv]
  unfold ir97
  (refine zG ?_)
  refine CS.iter len (fun i => [(8, i64 i), (7, i64 len), (0, .s (.slc rb o len cap)), (1, .s (.fn F [] post))]) (fun _ => H) (fun i => ∀ i', i' < i → ¬Q i') (by (repeat first | exact trivial | refine And.intro rfl ?_)) (Drops.refl _ _) (fun _ h => by omega) ?_
  intro i n1 hi hn hJ
  (refine zG ?_)
  refine zI ?_ ?_<;>intro h1
  · have hE1 : kr.c (o + i * 1) = E i := by rw [Nat.mul_one]; exact hE i (by omega)
    (refine zG ?_)
    refine RS.callv (f := F) (pre := []) (post := post) (vs := [.s (E i)]) (by exact rfl) (by exact rfl) ?_
    refine FnS.mono (hF i n1 (by omega) (by omega)) ?_
    rintro r H n2 hn2 ⟨rfl, rfl⟩
    (refine zG ?_)
    refine zI ?_ ?_<;>intro h2
    · (refine zG ?_)
      exact ⟨_, H, rfl, by exact zD, ⟨i, rfl, .inl ⟨i, rfl, by omega, h2, hJ⟩⟩, rfl⟩
    · (refine zG ?_)
      refine ⟨by omega, by (repeat first | exact trivial | refine And.intro rfl ?_), Drops.refl _ _, fun i' hi' => ?_⟩
      by_cases e : i' = i
      · subst e; exact h2
      · exact hJ i' (by omega)
  · obtain rfl : i = len := by omega
    (refine zG ?_)
    exact ⟨_, H, rfl, by exact zD, ⟨-1, rfl, .inr ⟨rfl, hJ⟩⟩, rfl⟩

/-- slices.ContainsFunc[[][]byte,[]byte] -/
def ir100 : Cd := (.seq (.reg [⟨some 4,none,.mov (.c (.bool false))⟩]) (.seq (.reg [⟨some 5,none,.mov (.t 0)⟩,⟨some 6,none,.mov (.t 1)⟩,⟨some 7,none,.call 97 [(.t 5),(.t 6)]⟩,⟨some 8,none,.bin .geq (.t 7) (.c (.int .i64 0))⟩,⟨some 4,none,.mov (.t 8)⟩]) .ret))

set_option maxRecDepth 100000 in
theorem tr100 : trFn Tryz.prog Tryz.f100 = some (9, ir100, [.tmp 4]) := by kernel_rfl

theorem slices_ContainsFuncR (Q : Nat → Prop) (F : FuncId) (post : List SV) (rb o len cap : Nat) (hl : len ≤ 4000000) (kr : Blk) (E : Nat → SV) (H : Hp) (n : Nat) (grb : H.get rb = some kr) (hs : o + len ≤ kr.size) (hE : ∀ i, i < len → kr.c (o + i) = E i)
    (hF : ∀ i n' : Nat, i < len → n ≤ n' → FnS Tryz.prog F ([.s (E i)] ++ post.map .s) H n' (fun r H' _ => r = bl (tb (Q i)) ∧ H' = H)) :
    FnS Tryz.prog 100 [.s (.slc rb o len cap), .s (.fn F [] post)] H n (fun r H' _ => r = bl (tb (∃ i, i < len ∧ Q i)) ∧ H' = H) := by
  refine FnS.of_body Tryz.func100 tr100 (by simp) (fun hf => ?_)
  dsimp only [argEnv]
  unfold ir100
  (refine zG ?_)
  refine RS.call rfl ((slices_IndexFuncR Q F post rb o len cap hl kr E _ _ grb hs hE hF).mono ?_)
  rintro r H n2 hn2 ⟨⟨x, rfl, hx⟩, rfl⟩
  have hx2 : 0 ≤ x ↔ ∃ i, i < len ∧ Q i := by
    rcases hx with ⟨i, rfl, h1, h2, _⟩ | ⟨rfl, h1⟩
    · exact ⟨fun _ => ⟨i, h1, h2⟩, fun _ => by omega⟩
    · exact ⟨fun h => by omega, fun ⟨i, h2, h3⟩ => absurd h3 (h1 i h2)⟩
  (refine zG ?_)
  exact ⟨_, H, rfl, by exact zD, by rw [← tb_iff hx2, tb_dec], rfl⟩

end Go.Proofs.YtkmfdhicjaccaaaGreat
