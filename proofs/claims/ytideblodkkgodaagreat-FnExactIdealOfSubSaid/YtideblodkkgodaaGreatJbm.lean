/- Reduced lists, the spec's: one vector after the other. -/
import Derived.Test.YtideblodkkgodaaGreatJbl
import Derived.Test.YtideblodkkgodaaGreatJbi
import Derived.Test.YtideblodkkgodaaGreatJal
set_option linter.unusedSectionVars false
set_option linter.unusedVariables false
set_option linter.unusedSimpArgs false

namespace Go.V

variable [BW]

set_option linter.unusedSimpArgs false

set_option linter.unusedVariables false

theorem VL.same {H : Hp} {v : SV} {m : Nat} {I I' : Nat → Nat → Int} {b : Nat} (h : VL H v m I b) (hs : ∀ i x, i < m → x < 8 → I i x = I' i x) : VL H v m I' b := by
  obtain ⟨o, cap, k, h1, h2, h3, h4, h5⟩ := h
  exact ⟨o, cap, k, h1, h2, h3, h4, fun i x hi hx => by rw [h5 i x hi hx, hs i x hi hx]⟩

theorem VL.bound {H : Hp} {v : SV} {m : Nat} {I : Nat → Nat → Int} {b n : Nat} (h : VL H v m I b) (hf : ∀ x, n ≤ x → H.get x = none) : b < n := by
  obtain ⟨o, cap, k, h1, h2, _⟩ := h
  exact getlt hf h2

theorem RR.ge {p : Int} {A : Nat → Nat → Int} {d : Nat} {pl : Nat → Nat} (h : RR p A d pl) : ∀ k, k < d → k ≤ pl k
  | 0, _ => Nat.zero_le _
  | k + 1, hk => by have := h.ge k (by omega); have := h.mono k (k + 1) (by omega) hk; omega

theorem RR.d8 {p : Int} {A : Nat → Nat → Int} {d : Nat} {pl : Nat → Nat} (h : RR p A d pl) : d ≤ 8 := by
  rcases Nat.eq_zero_or_pos d with e | e
  · omega
  · have := h.ge (d - 1) (by omega); have := h.lt (d - 1) (by omega); omega

/-- Where a place stands among places that grow. -/
theorem RR.at {p : Int} {A : Nat → Nat → Int} {d : Nat} {pl : Nat → Nat} (h : RR p A d pl) {q : Nat} (hq : ∀ k, k < d → pl k ≠ q) : ∃ i0, i0 ≤ d ∧ (∀ k, k < i0 → pl k < q) ∧ ∀ k, i0 ≤ k → k < d → q < pl k := by
  have key : ∀ j, j ≤ d → ∃ i0, i0 ≤ j ∧ (∀ k, k < i0 → pl k < q) ∧ ∀ k, i0 ≤ k → k < j → q < pl k := by
    intro j
    induction j with
    | zero => intro _; exact ⟨0, by omega, fun k hk => by omega, fun k h1 h2 => by omega⟩
    | succ j ih =>
      intro hj
      obtain ⟨i0, h1, h2, h3⟩ := ih (by omega)
      by_cases e : pl j < q
      · have e2 : i0 = j := by
          rcases Nat.lt_or_ge i0 j with e3 | e3
          · have := h3 i0 (Nat.le_refl _) e3
            have := h.mono i0 j e3 (by omega)
            omega
          · omega
        subst e2
        refine ⟨i0 + 1, by omega, fun k hk => ?_, fun k q1 q2 => by omega⟩
        by_cases e4 : k = i0
        · rw [e4]; exact e
        · exact h2 k (by omega)
      · refine ⟨i0, by omega, h2, fun k q1 q2 => ?_⟩
        by_cases e4 : k = j
        · have := hq j (by omega); rw [e4]; omega
        · exact h3 k q1 (by omega)
  exact key d (Nat.le_refl _)

theorem rdk_in {p : Int} {A B : Nat → Nat → Int} {d m : Nat} {v : Nat → Int} (hA : ∀ j, j < d → spn p B m (A j)) (hv : spn p B m v) : ∀ k, k ≤ d → spn p B m (rdk p A v k)
  | 0, _ => hv
  | k + 1, hk => spn_add (a := 1) (b := -(rdk p A v k (fsn (A k) 8))) (rdk_in hA hv k (by omega)) (hA k (by omega)) (fun x _ => by rw [rdk_succ]; unfold pl; rw [emod_idem, Int.one_mul])

theorem rdk_out {p : Int} {A B : Nat → Nat → Int} {d m : Nat} {v : Nat → Int} (hA : ∀ j, j < d → spn p B m (A j)) : ∀ k, k ≤ d → spn p B m (rdk p A v k) → spn p B m v
  | 0, _, h => h
  | k + 1, hk, h => rdk_out hA k (by omega) (spn_add (a := 1) (b := rdk p A v k (fsn (A k) 8)) h (hA k (by omega)) (fun x _ => by rw [rdk_succ]; unfold pl; rw [Int.one_mul, modAddL, Int.neg_mul]; congr 1; omega))

theorem snc_row {p : Int} {A : Nat → Nat → Int} {d : Nat} {v : Nat → Int} : spn p (snc A d v) (d + 1) v := by
  have h1 := spn_one (p := p) (I := snc A d v) (show d < d + 1 by omega)
  unfold snc at h1 ⊢
  rwa [if_pos rfl] at h1

theorem snc_old {p : Int} {A : Nat → Nat → Int} {d : Nat} {v : Nat → Int} {k : Nat} (hk : k < d) : spn p (snc A d v) (d + 1) (A k) := spn_snc (spn_one hk)

theorem snc_sub {p : Int} {A B : Nat → Nat → Int} {d m : Nat} {v : Nat → Int} (hA : ∀ k, k < d → spn p B m (A k)) (hv : spn p B m v) : sub p (snc A d v) (d + 1) B m := fun k hk => by
  unfold snc
  by_cases e : k = d
  · rw [if_pos e]; exact hv
  · rw [if_neg e]; exact hA k (by omega)

/-- A vector that reduces to nothing. -/
theorem put_zero {p : Int} {A : Nat → Nat → Int} {d : Nat} {v : Nat → Int} (h : ∀ x, x < 8 → rdk p A v d x = 0) : same p A d (snc A d v) (d + 1) :=
  ⟨fun k hk => snc_old hk, snc_sub (fun k hk => spn_one hk) (rdk_out (fun j hj => spn_one hj) d (Nat.le_refl _) (spn_zero (fun x hx => by rw [h x hx]; rfl)))⟩

/-- One that does not. -/
theorem put_one {p : Int} (hp : isP p = true) {A : Nat → Nat → Int} {d : Nat} {P : Nat → Nat} {v U V : Nat → Int} (h : RR p A d P) (hv : isRes p 8 v) (hU : U = rdk p A v d) (hV : V = pl p (fun _ => 0) (inv p (U (fsn U 8))) U) (hq : fsn U 8 < 8) :
    isRes p 8 V ∧ V (fsn U 8) = 1 ∧ (∀ x, x < fsn U 8 → V x = 0) ∧ (∀ k, k < d → V (P k) = 0) ∧ (∀ k, k < d → P k ≠ fsn U 8) ∧ same p (snc A d V) (d + 1) (snc A d v) (d + 1) := by
  have hb := isP_le hp
  have hUr : isRes p 8 U := by rw [hU]; exact rdk_res hb.1 hv d
  have hne0 : U (fsn U 8) % p ≠ 0 := by rw [modSelf (hUr _ hq)]; exact fsn_hit U 8 hq
  have hi := (inv_spec hp hne0).2.2
  have hz : ∀ k, k < d → U (P k) = 0 := fun k hk => by
    have := rdk_zero hb.1 (v := v) h.img d k hk (Nat.le_refl _)
    rw [h.fsn hk] at this
    rw [hU]; exact this
  have hV0 : ∀ x, U x = 0 → V x = 0 := fun x hx => by rw [hV]; unfold pl; rw [hx, Int.mul_zero]; rfl
  have hVU : ∀ x, V x = inv p (U (fsn U 8)) * U x % p := fun x => by rw [hV]; unfold pl; rw [Int.zero_add]
  refine ⟨?_, ?_, fun x hx => hV0 x (fsn_low U 8 x hx), fun k hk => hV0 _ (hz k hk), fun k hk e => fsn_hit U 8 hq (by rw [← e]; exact hz k hk), ?_, ?_⟩
  · intro x _; rw [hVU]; exact modB _ hb.1
  · rw [hVU]; exact hi
  · refine snc_sub (fun k hk => snc_old hk) ?_
    have h1 : spn p (snc A d v) (d + 1) U := by rw [hU]; exact rdk_in (fun j hj => snc_old hj) snc_row d (Nat.le_refl _)
    exact spn_add (a := inv p (U (fsn U 8))) (b := 0) h1 h1 (fun x _ => by rw [hVU, emod_idem, Int.zero_mul, Int.add_zero])
  · refine snc_sub (fun k hk => snc_old hk) (rdk_out (fun j hj => snc_old hj) d (Nat.le_refl _) ?_)
    rw [← hU]
    exact spn_add (a := U (fsn U 8)) (b := 0) snc_row snc_row (fun x _ => by
      rw [hVU, Int.zero_mul, Int.add_zero, emodR, ← Int.mul_assoc, Int.mul_comm (U (fsn U 8)), Int.mul_emod (_ * _), hi, Int.one_mul, emod_idem])

section

variable {P : Program} {N mm : Nat} {e : Env} {n : Nat} {l : List Ins} {d : Option Nat}

/-- One more vector, in a region. -/
theorem MS.appV {t : TypeId} {F Hc : Hp} {x y : X} {v : SV} {m b b2 : Nat} {I : Nat → Nat → Int} {w : Nat → Int} {k2 : Blk} {z : Zs} {K : Env → Hp → Prop}
    (hx : x.ev e = some (.s v)) (hy : y.ev e = some (.s (.slc b2 0 1 1))) (hV : VL Hc v m I b) (hb2 : Hc.get b2 = some k2) (hs2 : k2.size = 8) (hc2 : ∀ q, q < 8 → k2.c q = .int .u8 (w q)) (hm : m ≤ 4000000) (hF : F.get b = none)
    (h : ∀ v' b' Hc' kk, VL Hc' v' (m + 1) (snc I m w) b' → (b' = b ∨ n ≤ b' ∧ Hc.get b' = none) → Hc'.get b' = some kk → (∀ x, x ≠ b' → Hc'.get x = Hc.get x) → MS P N mm F n l (putD d (.s v') e) Hc' K) :
    MS P N mm F n (⟨d, none, .app t 8 8 z x y⟩ :: l) e Hc K := by
  intro ops l' hl a Ka hag he hf hK
  obtain ⟨o, r, rfl, ho', hr⟩ := mapM_cons_inv hl
  obtain ⟨h1, h2, h3, h4⟩ := trOp_spec ho'
  dsimp only at h1 h2 h3 h4
  refine ⟨h4, fun w0 w1 n' q1 q2 q3 => ?_⟩
  have hfr : Hc.get n' = none := q3.fresh (Nat.le_refl _)
  obtain ⟨o1, cap, k1, rfl, hk1, ho, hmc, hc⟩ := hV
  have fin : ∃ vv H' n2 w', (execOp a.eval o).run P w1 = .ok (.value vv) w' ∧ n' ≤ n2 ∧ Mem w0 H' n2 w' ∧ ∃ u : AV, vv = u.conc ∧ (fun e' H' _ => Ext F H' ∧ MS P N mm F n l e' H' K) (putD d u e) H' n2 := by
    refine run_app (K := fun e' H' _ => Ext F H' ∧ MS P N mm F n l e' H' K) (len2 := 1) (cap2 := 1) (c := fun i => .int .u8 (I (i / 8) (i % 8))) (c2 := fun i => .int .u8 (w i)) hx hy (.inr ⟨b, o1, k1, rfl, hk1, ho, hmc, fun i hi => ?_⟩) (.inr ⟨b2, 0, k2, rfl, hb2, by omega, Nat.le_refl _, fun i hi => by rw [Nat.zero_add]; exact hc2 i (by omega)⟩) (by omega) (by omega) (fun hle => ⟨fun b' o' k' hee hk' => ?_, fun hee => by cases hee⟩) (fun hlt cap' hcap => ?_) o h1 w0 w1 a q3 hag
    · show _ = SV.int IntKind.u8 (I (i / 8) (i % 8))
      rw [← hc (i / 8) (i % 8) (by omega) (by omega), show i / 8 * 8 + i % 8 = i by omega]
    · cases hee
      rw [hk1] at hk'
      cases hk'
      refine ⟨fun b' k' hb' => ?_, h _ b _ _ ⟨o1, cap, _, rfl, Hp.get_set_self _ hk1, ho, hle, fun i x hi hx => ?_⟩ (.inl rfl) (Hp.get_set_self _ hk1) (fun x hx => Hp.get_set_other _ (fun q => hx q.symm))⟩
      · have hne : b ≠ b' := by intro e3; subst e3; rw [hF] at hb'; cases hb'
        rw [Hp.get_set_other _ hne]; exact he b' k' hb'
      · (try dsimp only)
        unfold splice snc
        by_cases e1 : i = m
        · subst e1
          rw [if_pos (by omega), if_pos rfl]
          congr 2; omega
        · rw [if_neg (by omega), if_neg e1]
          exact hc i x (by omega) hx
    · refine ⟨fun b' k' hb' => ?_, h _ n' _ _ ⟨0, cap', _, rfl, Hp.get_eq _ _ _, by (try dsimp only); omega, hcap, fun i x hi hx => ?_⟩ (.inr ⟨q1, hfr⟩) (Hp.get_eq _ _ _) (fun x hx => Hp.get_ne _ _ (fun q => hx q.symm))⟩
      · have hne : n' ≠ b' := by intro e1; subst e1; rw [hf _ q1] at hb'; cases hb'
        rw [Hp.get_ne _ _ hne]; exact he b' k' hb'
      · (try dsimp only)
        unfold joinC snc
        rw [Nat.zero_add]
        by_cases e1 : i = m
        · subst e1
          rw [if_pos (by omega), if_neg (by omega), if_pos rfl]
          congr 2; omega
        · rw [if_pos (by omega), if_pos (by omega), if_neg e1]
          show SV.int IntKind.u8 (I ((i * 8 + x) / 8) ((i * 8 + x) % 8)) = _
          rw [show (i * 8 + x) / 8 = i by omega, show (i * 8 + x) % 8 = x by omega]
  obtain ⟨vv, H', n2, w', hrun, hn2, hm', u, rfl, hE, hms⟩ := fin
  exact ⟨_, w', H', n2, .inl hrun, hn2, hm', hE, (fun hg => by rw [gentle_of h1] at hg; cases hg), hms ops r hr _ Ka (by rw [h2]; exact hag.putD h3 u) hE hf hK⟩

end

end Go.V

namespace Go.Proofs.YtideblodkkgodaaGreat

open Go.V

variable [BW]

set_option linter.unusedSimpArgs false

set_option linter.unusedVariables false

set_option maxHeartbeats 4000000

/-- spec.l01By -/
def ir40 : Cd := (.seq (.reg [⟨some 4,none,.box 32 (.t 1)⟩,⟨some 6,none,.new 32 [(8,(.int .u8 0))]⟩]) (.seq (.seq (.reg [⟨some 7,none,.mov (.c (.int .i64 0))⟩]) (.block 0 (.loop (.seq (.seq (.reg [⟨some 9,none,.mov (.t 7)⟩,⟨some 10,none,.mov (.t 2)⟩,⟨some 11,none,.len (.t 10)⟩,⟨some 12,none,.bin .lss (.t 9) (.t 11)⟩]) (.cond (.t 12) .skip (.exit 0))) (.seq (.block 1 (.seq (.reg [⟨some 15,none,.mov (.t 2)⟩,⟨some 16,none,.mov (.t 7)⟩,⟨some 17,none,.isl 8 (.t 15) (.t 16)⟩,⟨some 18,none,.ld (some 8) (.t 17)⟩,⟨some 19,none,.call 44 [(.t 18)]⟩,⟨some 8,none,.mov (.t 19)⟩]) (.seq (.reg [⟨some 20,none,.mov (.t 8)⟩,⟨some 21,none,.ia 8 1 (.t 4) (.t 20)⟩,⟨some 22,none,.ld none (.t 21)⟩,⟨some 23,none,.bin .neq (.t 22) (.c (.int .u8 0))⟩]) (.cond (.t 23) (.drw true [11,12] [⟨some 24,none,.mov (.t 0)⟩,⟨some 25,none,.ld (some 8) (.t 4)⟩,⟨some 26,none,.mov (.t 2)⟩,⟨some 27,none,.mov (.t 7)⟩,⟨some 28,none,.isl 8 (.t 26) (.t 27)⟩,⟨some 29,none,.ld (some 8) (.t 28)⟩,⟨some 30,none,.mov (.t 8)⟩,⟨some 31,none,.ia 8 1 (.t 4) (.t 30)⟩,⟨some 32,none,.ld none (.t 31)⟩,⟨some 33,none,.cv .i64 (.t 32)⟩,⟨some 34,none,.un .neg (.t 33)⟩,⟨some 35,none,.call 42 [(.t 24),(.t 25),(.t 29),(.t 34)]⟩,⟨none,none,.st 8 (.t 4) (.t 35)⟩]) .skip)))) (.reg [⟨some 13,none,.mov (.t 7)⟩,⟨some 14,none,.bin .add (.t 13) (.c (.int .i64 1))⟩,⟨some 7,none,.mov (.t 14)⟩])))))) (.seq (.reg [⟨some 36,none,.ld (some 8) (.t 4)⟩,⟨none,none,.st 8 (.t 6) (.t 36)⟩]) .ret)))

set_option maxRecDepth 100000 in
theorem tr40 : trFn Tryz.prog Tryz.f40 = some (37, ir40, [.cell (some 8) 6]) := by kernel_rfl

theorem spec_l01By (p : Int) (A : Nat → Nat → Int) (m b : Nat) (sv : SV) (v : Nat → Int) (H : Hp) (n : Nat) (hp : 2 ≤ p ∧ p ≤ 31) (hm : m ≤ 1000000) (hV : VL H sv m A b) (hA : ∀ i, i < m → isRes p 8 (A i)) (hlt : ∀ i, i < m → fsn (A i) 8 < 8) (hv : isRes p 8 v) :
    FnS Tryz.prog 40 [i64 p, .arr 8 (bys v), .s sv] H n (fun r H' _ => r = .arr 8 (bys (rdk p A v m)) ∧ H' = H) := by
  obtain ⟨o, cap, K, rfl, gb, ho, hmc, hc⟩ := hV
  refine FnS.of_body Tryz.func40 tr40 (by simp) (fun hf => ?_)
  dsimp only [argEnv]
  unfold ir40
  have hbn := getlt hf gb
  (refine zG ?_)
  refine CS.iter m (fun i => [(7, i64 (i : Nat)), (4, ptr n 0), (6, ptr (n + 1) 0), (0, i64 p), (2, .s (.slc b o m cap))])
    (fun i => (n + 1, ⟨8, fun _ => .int .u8 0, 32⟩) :: (n, ⟨8, bys (rdk p A v i), 32⟩) :: H) (fun _ => True) (by (repeat first | exact trivial | refine And.intro rfl ?_)) (Drops.keepc rfl rfl (fun q hq => ?_) (Drops.refl _ _)) trivial ?_
  · rcases (show q = 0 ∨ q = 1 ∨ q = 2 ∨ q = 3 ∨ q = 4 ∨ q = 5 ∨ q = 6 ∨ q = 7 by (simp only [Zs.size] at hq; omega)) with rfl | rfl | rfl | rfl | rfl | rfl | rfl | rfl <;> rfl
  intro i n1 hi hn _
  (refine zG ?_)
  refine zI ?_ ?_<;>intro h1
  · have hi' : i < m := by omega
    have e9 : ∀ q, q < 8 → K.c (o + i * 8 + q) = .int .u8 (A i q) := fun q hq => by rw [Nat.add_assoc]; exact hc i q hi' hq
    have hAb : isBy 8 (A i) := isRes.by (hA i hi') hp.2
    have hl := hlt i hi'
    have hrk : isRes p 8 (rdk p A v i) := rdk_res hp.1 hv i
    have hrt := hrk (fsn (A i) 8) hl
    have hr1 : (bys (rdk p A v i)) (fsn (A i) 8) = .int .u8 (rdk p A v i (fsn (A i) 8)) := rfl
    (refine zG ?_)
    refine RS.call rfl ((spec_l01First (A i) _ _).mono ?_)
    rintro r H' n4 hn4 ⟨rfl, rfl⟩
    (refine zG ?_)
    refine zI ?_ ?_<;>intro h4
    · (refine zG ?_)
      refine RS.neg64 (by exact rfl) (by omega) ?_
      (repeat first|refine zG ?_|(refine LS.nilQ ?_;try with_reducible intro nq hnq;try refine zU ?_))
      refine RS.call rfl ((spec_l01AddN p (-(rdk p A v i (fsn (A i) 8))) (rdk p A v i) (A i) _ _ hp (isRes.by hrk hp.2) hAb (by omega)).mono ?_)
      rintro r H' n5 hn5 ⟨rfl, rfl⟩
      (refine zG ?_)
      exact ⟨by omega, by (repeat first | exact trivial | refine And.intro rfl ?_), Drops.keepc rfl rfl (fun _ _ => rfl) (Drops.keepc rfl rfl (fun _ _ => rfl) (Drops.refl _ _)), trivial⟩
    · (refine zG ?_)
      exact ⟨by omega, by (repeat first | exact trivial | refine And.intro rfl ?_), Drops.keepc rfl rfl (fun _ _ => rfl) (Drops.keepc rfl rfl (fun q hq => congrArg (SV.int .u8) (rdk_same hp.1 hv h4 hq).symm) (Drops.refl _ _)), trivial⟩
  · obtain rfl : i = m := by omega
    (refine zG ?_)
    exact ⟨.arr 8 (bys (rdk p A v i)), H, conc_arr (fun q hq => by first | rfl | (simp only [Nat.zero_add]; done) | (simp only [Nat.zero_add]; rfl)), by exact zD, rfl, rfl⟩

end Go.Proofs.YtideblodkkgodaaGreat

/- Reduced lists, the program's: by elimination. -/

namespace Go.V

variable [BW]

set_option linter.unusedSimpArgs false

set_option linter.unusedVariables false

section

variable {P : Program} {N m : Nat} {e : Env} {H F : Hp} {n : Nat} {d : Option Nat} {K : Env → Hp → Prop}

/-- One more byte behind eight. -/
theorem ST.app1 {t : TypeId} {x y : X} {bC capC b2 : Nat} {kC k2 : Blk} {w : Nat → Int} {z : Zs} (hE : Ext F H)
    (hx : x.ev e = some (.s (.slc bC 0 8 capC))) (hy : y.ev e = some (.s (.slc b2 0 1 1))) (gC : H.get bC = some kC) (sC : capC ≤ kC.size) (hc8 : 8 ≤ capC) (cC : ∀ x, x < 8 → kC.c x = .int .u8 (w x)) (g2 : H.get b2 = some k2) (s2 : k2.size = 1) (c2 : k2.c 0 = .int .u8 0) (hF : F.get bC = none)
    (h : ∀ bR capR kR H', H'.get bR = some kR → capR ≤ kR.size → 9 ≤ capR → (∀ x, x < 8 → kR.c x = .int .u8 (w x)) → kR.c 8 = .int .u8 0 → (bR = bC ∨ n ≤ bR ∧ H.get bR = none) → (∀ x, x ≠ bR → H'.get x = H.get x) → Ext F H' → K (putD d (.s (.slc bR 0 9 capR)) e) H') :
    ST P N m ⟨d, none, .app t 1 1 z x y⟩ e H F n K := by
  refine ST.run rfl ?_
  intro n' q1 hfr o h1 w0 w1 a q3 hag
  refine run_app (K := fun e' H' _ => Ext F H' ∧ K e' H') (len := 8) (cap := capC) (len2 := 1) (cap2 := 1) (c := fun i => .int .u8 (w i)) (c2 := fun _ => .int .u8 0) hx hy (.inr ⟨bC, 0, kC, rfl, gC, by omega, hc8, fun i hi => by rw [Nat.zero_add]; exact cC i (by omega)⟩) (.inr ⟨b2, 0, k2, rfl, g2, by omega, Nat.le_refl _, fun i hi => by (obtain rfl : i = 0 := by omega); exact c2⟩) (by omega) (by omega) (fun hle => ⟨fun b' o' k' hee hk' => ?_, fun hee => by cases hee⟩) (fun hlt cap' hcap => ?_) o h1 w0 w1 a q3 hag
  · cases hee
    rw [gC] at hk'
    cases hk'
    have hE2 : Ext F (H.set bC (splice kC.c (0 + 8 * 1) (1 * 1) (fun _ => .int .u8 0))) := fun b' k' hb' => by
      have hne : bC ≠ b' := by intro e3; subst e3; rw [hF] at hb'; cases hb'
      rw [Hp.get_set_other _ hne]; exact hE b' k' hb'
    refine ⟨hE2, h bC capC _ _ (Hp.get_set_self _ gC) sC (by omega) (fun x hx => ?_) ?_ (.inl rfl) (fun x hx => Hp.get_set_other _ (fun q => hx q.symm)) hE2⟩
    · (try dsimp only)
      unfold splice; rw [if_neg (by omega)]; exact cC x hx
    · (try dsimp only)
      unfold splice; rw [if_pos (by omega)]
  · have hE2 : ∀ blk, Ext F ((n', blk) :: H) := fun blk b' k' hb' => by
      have hne : n' ≠ b' := by intro e1; subst e1; have := hE _ _ hb'; rw [hfr _ (Nat.le_refl _)] at this; cases this
      rw [Hp.get_ne _ _ hne]; exact hE b' k' hb'
    refine ⟨hE2 _, h n' cap' _ _ (Hp.get_eq _ _ _) (by (try dsimp only); omega) (by omega) (fun x hx => ?_) ?_ (.inr ⟨q1, hfr _ (Nat.le_refl _)⟩) (fun x hx => Hp.get_ne _ _ (fun q => hx q.symm)) (hE2 _)⟩
    · (try dsimp only)
      unfold joinC; rw [if_pos (by omega), if_pos (by omega)]
    · (try dsimp only)
      unfold joinC; rw [if_pos (by omega), if_neg (by omega)]

/-- One more cell in a slice. -/
theorem ST.appS {t : TypeId} {bytes : Nat} {x y : X} {v w : SV} {k b b2 : Nat} {G : Nat → SV} {k2 : Blk} {z : Zs} (hE : Ext F H)
    (hx : x.ev e = some (.s v)) (hy : y.ev e = some (.s (.slc b2 0 1 1))) (hV : SL H v k G b) (hb2 : H.get b2 = some k2) (hs2 : k2.size = 1) (hc2 : k2.c 0 = w) (hk : k ≤ 4000000) (hby : bytes ≤ 1000000) (hF : v = .nils ∨ F.get b = none)
    (h : ∀ v' b' H' kk, SL H' v' (k + 1) (snS G k w) b' → (b' = b ∧ v ≠ .nils ∨ n ≤ b' ∧ H.get b' = none) → H'.get b' = some kk → (∀ x, x ≠ b' → H'.get x = H.get x) → Ext F H' → K (putD d (.s v') e) H') :
    ST P N m ⟨d, none, .app t 1 bytes z x y⟩ e H F n K := by
  refine ST.run rfl ?_
  intro n' q1 hfr o h1 w0 w1 a q3 hag
  have hy2 : sliceV H 1 (.slc b2 0 1 1) 1 1 (fun _ => w) := .inr ⟨b2, 0, k2, rfl, hb2, by omega, Nat.le_refl _, fun i hi => by (obtain rfl : i = 0 := by omega); exact hc2⟩
  have hby2 : (2 * (k + 1) + 768) * bytes ≤ 2 ^ 48 := Nat.le_trans (Nat.mul_le_mul (show 2 * (k + 1) + 768 ≤ 9000000 by omega) hby) (by decide)
  have new : ∀ (c : Nat → SV), (∀ i, i < k → c i = G i) → ∀ cap', k + 1 ≤ cap' → Ext F ((n', ⟨cap' * 1, joinC ((k + 1) * 1) (joinC (k * 1) c (fun _ => w)) (fun i => z.c (i % 1)), t⟩) :: H) ∧ K (putD d (.s (.slc n' 0 (k + 1) cap')) e) ((n', ⟨cap' * 1, joinC ((k + 1) * 1) (joinC (k * 1) c (fun _ => w)) (fun i => z.c (i % 1)), t⟩) :: H) := by
    intro c hc cap' hcap
    have hE2 : ∀ blk, Ext F ((n', blk) :: H) := fun blk b' k' hb' => by
      have hne : n' ≠ b' := by intro e1; subst e1; have := hE _ _ hb'; rw [hfr _ (Nat.le_refl _)] at this; cases this
      rw [Hp.get_ne _ _ hne]; exact hE b' k' hb'
    refine ⟨hE2 _, h _ n' _ _ (.inr ⟨0, cap', _, rfl, Hp.get_eq _ _ _, by (try dsimp only); omega, hcap, fun i hi => ?_⟩) (.inr ⟨q1, hfr _ (Nat.le_refl _)⟩) (Hp.get_eq _ _ _) (fun x hx => Hp.get_ne _ _ (fun q => hx q.symm)) (hE2 _)⟩
    (try dsimp only)
    unfold joinC snS
    rw [Nat.zero_add, if_pos (by omega)]
    by_cases e1 : i = k
    · rw [if_neg (by omega), if_pos e1]
    · rw [if_pos (by omega), if_neg e1, hc i (by omega)]
  rcases hV with ⟨rfl, rfl⟩ | ⟨o1, cap, k1, rfl, hk1, ho, hmc, hc⟩
  · exact run_app (K := fun e' H' _ => Ext F H' ∧ K e' H') (len := 0) (cap := 0) (len2 := 1) (cap2 := 1) (c := G) (c2 := fun _ => w) hx hy (.inl ⟨rfl, rfl, rfl⟩) hy2 hby2 (by omega) (fun hle => by omega) (fun hlt cap' hcap => new G (fun i hi => rfl) cap' hcap) o h1 w0 w1 a q3 hag
  · refine run_app (K := fun e' H' _ => Ext F H' ∧ K e' H') (len2 := 1) (cap2 := 1) (c := G) (c2 := fun _ => w) hx hy (.inr ⟨b, o1, k1, rfl, hk1, by omega, hmc, fun i hi => hc i (by omega)⟩) hy2 hby2 (by omega) (fun hle => ⟨fun b' o' k' hee hk' => ?_, fun hee => by cases hee⟩) (fun hlt cap' hcap => new G (fun i hi => rfl) cap' hcap) o h1 w0 w1 a q3 hag
    cases hee
    rw [hk1] at hk'
    cases hk'
    have hFb : F.get b = none := hF.resolve_left (by intro q; cases q)
    have hE2 : Ext F (H.set b (splice k1.c (o1 + k * 1) (1 * 1) (fun _ => w))) := fun b' k' hb' => by
      have hne : b ≠ b' := by intro e3; subst e3; rw [hFb] at hb'; cases hb'
      rw [Hp.get_set_other _ hne]; exact hE b' k' hb'
    refine ⟨hE2, h _ b _ _ (.inr ⟨o1, cap, _, rfl, Hp.get_set_self _ hk1, ho, hle, fun i hi => ?_⟩) (.inl ⟨rfl, by intro q; cases q⟩) (Hp.get_set_self _ hk1) (fun x hx => Hp.get_set_other _ (fun q => hx q.symm)) hE2⟩
    (try dsimp only)
    unfold splice snS
    by_cases e1 : i = k
    · rw [if_pos (by omega), if_pos e1]
    · rw [if_neg (by omega), if_neg e1, hc i (by omega)]

theorem ST.mov {x : X} {v : AV} (hx : x.ev e = some v) (h : K (putD d v e) H) : ST P N m ⟨d, none, .mov x⟩ e H F n K := ST.pure (by simp only [PV, hx]; exact h)

theorem ST.ck {x : X} {b o : Nat} (hx : x.ev e = some (.s (.ptr b o))) (h : K (putD d (.s (.ptr b o)) e) H) : ST P N m ⟨d, none, .ck x⟩ e H F n K := ST.pure (by simp only [PV, hx]; exact h)

theorem ST.fa {x : X} {b o off : Nat} (hx : x.ev e = some (.s (.ptr b o))) (h : K (putD d (.s (.ptr b (o + off))) e) H) : ST P N m ⟨d, none, .fa off x⟩ e H F n K := ST.pure (by simp only [PV, hx]; exact h)

theorem ST.slaAll {x : X} {len sz b o : Nat} (hx : x.ev e = some (.s (.ptr b o))) (hl : 0 < len) (h : K (putD d (.s (.slc b o len len)) e) H) : ST P N m ⟨d, none, .sla len sz x none none none⟩ e H F n K :=
  ST.pure (by simp only [PV, hx, bndV]; exact ⟨by simp, by rw [if_neg (by omega)]; simpa using h⟩)

theorem ST.ld1 {x : X} {b off : Nat} {k : Blk} {v : SV} (hx : x.ev e = some (.s (.ptr b off))) (hb : F.get b = some k) (ho : off < k.size) (hv : k.c off = v) (h : K (putD d (.s v) e) H) : ST P N m ⟨d, none, .ld none x⟩ e H F n K :=
  ST.pure (by simp only [PV, hx, hb, ldV]; exact ⟨ho, by rw [hv]; exact h⟩)

end

end Go.V

namespace Go.Proofs.YtideblodkkgodaaGreat

open Go.V

variable [BW]

set_option linter.unusedSimpArgs false

set_option linter.unusedVariables false

set_option maxHeartbeats 4000000

/-- slices.Clone[[]byte,byte] -/
def ir68 : Cd := (.seq (.reg [⟨some 2,none,.mov (.c .nils)⟩]) (.seq (.seq (.reg [⟨some 3,none,.mov (.t 0)⟩,⟨some 4,none,.snil false (.t 3)⟩]) (.cond (.t 4) (.seq (.reg [⟨some 2,none,.mov (.c .nils)⟩]) .ret) .skip)) (.seq (.reg [⟨some 5,none,.bsl 5 0 1 [(1,(.int .u8 0))] []⟩,⟨some 6,none,.mov (.t 0)⟩,⟨some 7,none,.app 5 1 1 [(1,(.int .u8 0))] (.t 5) (.t 6)⟩,⟨some 2,none,.mov (.t 7)⟩]) .ret)))

set_option maxRecDepth 100000 in
theorem tr68 : trFn Tryz.prog Tryz.f68 = some (8, ir68, [.tmp 2]) := by kernel_rfl

theorem slices_CloneB (w : Nat → Int) (b : Nat) (k : Blk) (H : Hp) (n : Nat) (gb : H.get b = some k) (sb : k.size = 8) (cb : ∀ x, x < 8 → k.c x = .int .u8 (w x)) :
    FnS Tryz.prog 68 [.s (.slc b 0 8 8)] H n (fun r H' n' => ∃ b' cap' k', r = .s (.slc b' 0 8 cap') ∧ H'.get b' = some k' ∧ cap' ≤ k'.size ∧ 8 ≤ cap' ∧ (∀ x, x < 8 → k'.c x = .int .u8 (w x)) ∧ n ≤ b' ∧ b' < n' ∧ (∀ x, n' ≤ x → H'.get x = none) ∧ ∀ x, x < n → H'.get x = H.get x) := by
  refine FnS.of_body Tryz.func68 tr68 (by simp) (fun hf => ?_)
  dsimp only [argEnv]
  unfold ir68
  have hbn := getlt hf gb
  (refine zG ?_)
  refine RS.app (len := 0) (cap := 0) (len2 := 8) (cap2 := 8) (c := fun _ => .nil) (c2 := fun x => .int .u8 (w x)) (by exact rfl) (by exact rfl) (.inr ⟨n, 0, _, rfl, Hp.get_eq _ _ _, by (try dsimp only); omega, Nat.le_refl _, fun i hi => by omega⟩) (.inr ⟨b, 0, k, rfl, by rw [Hp.get_ne _ _ (by omega)]; exact gb, by omega, Nat.le_refl _, fun i hi => by rw [Nat.zero_add]; exact cb i (by omega)⟩) (by omega) (by omega) (fun h => by omega) (fun hlt cap' hcap => ?_)
  (refine zG ?_)
  exact ⟨.s (.slc (n + 1) 0 8 cap'), _, rfl, Drops.refl _ _, n + 1, cap', _, rfl, Hp.get_eq _ _ _, by (try dsimp only); omega, by omega, fun x hx => by (try dsimp only); unfold joinC; rw [if_pos (by omega), if_neg (by omega)]; (first | rfl | (simp; done)), by omega, by omega, fun x hx => by simp (disch := omega) only [Hp.get_ne]; exact hf x (by omega), fun x hx => by simp (disch := omega) only [Hp.get_ne]⟩

end Go.Proofs.YtideblodkkgodaaGreat
