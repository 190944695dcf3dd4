/- Left tables, first places (the spec's). -/
import Derived.Test.YtgnphaopeplfbaaGreatDoorJak
import Derived.Test.YtgnphaopeplfbaaGreatDoorJar
import Derived.Test.YtgnphaopeplfbaaGreatDoorJav
set_option linter.unusedSectionVars false
set_option linter.unusedVariables false
set_option linter.unusedSimpArgs false

namespace Go.V

structure Fx (Q : Prop) : Prop where
  out : Q

end Go.V

namespace Go.Proofs.YtgnphaopeplfbaaGreatDoor

open Go.V

variable [BW]

set_option linter.unusedSimpArgs false

set_option linter.unusedVariables false

set_option maxHeartbeats 4000000

/-- spec.l01First -/
def ir72 : Cd := (.seq (.reg [⟨some 1,none,.box 25 (.t 0)⟩,⟨some 2,none,.mov (.c (.int .i64 0))⟩]) (.seq (.reg [⟨some 3,none,.mov (.c (.int .i64 0))⟩]) (.seq (.block 0 (.loop (.seq (.seq (.reg [⟨some 4,none,.mov (.t 3)⟩,⟨some 5,none,.bin .lss (.t 4) (.c (.int .i64 8))⟩,⟨some 6,none,.mov (.t 5)⟩,⟨some 7,(some (6,true)),.mov (.t 3)⟩,⟨some 8,(some (6,true)),.ia 8 1 (.t 1) (.t 7)⟩,⟨some 9,(some (6,true)),.ld none (.t 8)⟩,⟨some 10,(some (6,true)),.bin .eql (.t 9) (.c (.int .u8 0))⟩,⟨some 11,none,.pick (.t 6) (.t 10) (.c (.bool false))⟩]) (.cond (.t 11) .skip (.exit 0))) (.block 1 (.reg [⟨some 12,none,.mov (.t 3)⟩,⟨some 13,none,.bin .add (.t 12) (.c (.int .i64 1))⟩,⟨some 3,none,.mov (.t 13)⟩]))))) (.seq (.reg [⟨some 14,none,.mov (.t 3)⟩,⟨some 2,none,.mov (.t 14)⟩]) .ret))))

set_option maxRecDepth 100000 in
theorem tr72 : trFn Tryz.prog Tryz.f72 = some (15, ir72, [.tmp 2]) := by kernel_rfl

theorem spec_l01First (v : Nat → Int) (H : Hp) (n : Nat) :
    FnS Tryz.prog 72 [.arr 8 (bys v)] H n (fun r H' _ => r = i64 (fsn v 8) ∧ H' = H) := by
  refine FnS.of_body Tryz.func72 tr72 (by simp) (fun hf => ?_)
  dsimp only [argEnv]
  unfold ir72
  (refine zG ?_)
  refine CS.iter 8 (fun i => [(3, i64 i), (1, ptr n 0)]) (fun i => (n, ⟨8, bys v, 25⟩) :: H) (fun i => Fx (∀ j, j < i → v j = 0)) (by (repeat first | exact trivial | refine And.intro rfl ?_)) (Drops.refl _ _) ⟨fun j hj => by omega⟩ ?_
  intro i n2 hi hn hJ
  (refine zG ?_)
  by_cases h2 : i < 8
  · rw [show decide ((i : Int) < 8) = true from decide_eq_true (by omega)]
    have hv1 : (bys v) i = .int .u8 (v i) := rfl
    (refine zG ?_)
    by_cases h3 : v i = 0
    · rw [show (v i == 0) = true by simpa using h3]
      (refine zG ?_)
      exact ⟨by omega, by (repeat first | exact trivial | refine And.intro rfl ?_), Drops.refl _ _, ⟨fun j hj => if e : j = i then by subst e; exact h3 else hJ.out j (by omega)⟩⟩
    · rw [show (v i == 0) = false by simpa using h3]
      (refine zG ?_)
      exact ⟨i64 i, H, rfl, by exact zD, by rw [fsn_eq h2 hJ.out h3], rfl⟩
  · obtain rfl : i = 8 := by omega
    rw [show decide (((8 : Nat) : Int) < 8) = false by decide]
    (refine zG ?_)
    exact ⟨i64 8, H, rfl, by exact zD, by rw [fsn_all hJ.out]; rfl, rfl⟩

/-- spec.l01Left -/
def ir38 : Cd := (.seq (.reg [⟨some 2,none,.box 31 (.t 0)⟩,⟨some 3,none,.box 25 (.t 1)⟩,⟨some 4,none,.new 27 [(64,(.int .u8 0))]⟩]) (.seq (.reg [⟨some 7,none,.build 64 [(64,(.int .u8 0))] []⟩,⟨some 5,none,.new 27 [(64,(.int .u8 0))]⟩,⟨none,none,.st 64 (.t 5) (.t 7)⟩]) (.seq (.seq (.reg [⟨some 6,none,.mov (.c (.int .i64 0))⟩]) (.block 0 (.loop (.seq (.seq (.reg [⟨some 8,none,.mov (.t 6)⟩,⟨some 9,none,.fa 1 (.t 2)⟩,⟨some 10,none,.ld none (.t 9)⟩,⟨some 11,none,.bin .lss (.t 8) (.t 10)⟩]) (.cond (.t 11) .skip (.exit 0))) (.seq (.block 1 (.drwo true [7] [0,1,2,3,4,5,6,7] [⟨some 14,none,.mov (.t 6)⟩,⟨some 15,none,.ld (some 522) (.t 2)⟩,⟨some 16,none,.ld (some 8) (.t 3)⟩,⟨some 17,none,.mov (.t 6)⟩,⟨some 18,none,.call 74 [(.t 17)]⟩,⟨some 19,none,.call 28 [(.t 15),(.t 16),(.t 18)]⟩,⟨some 20,none,.ia 8 8 (.t 5) (.t 14)⟩,⟨none,none,.st 8 (.t 20) (.t 19)⟩])) (.reg [⟨some 12,none,.mov (.t 6)⟩,⟨some 13,none,.bin .add (.t 12) (.c (.int .i64 1))⟩,⟨some 6,none,.mov (.t 13)⟩])))))) (.seq (.reg [⟨some 21,none,.ld (some 64) (.t 5)⟩,⟨none,none,.st 64 (.t 4) (.t 21)⟩]) .ret))))

set_option maxRecDepth 100000 in
theorem tr38 : trFn Tryz.prog Tryz.f38 = some (22, ir38, [.cell (some 64) 4]) := by kernel_rfl

theorem spec_l01Left (p : Int) (a : Nat) (m v : Nat → Int) (K : Nat → SV) (H : Hp) (n : Nat) (hp : 2 ≤ p ∧ p ≤ 31) (ha : a ≤ 8) (h0 : K 0 = .int .i64 p) (h1 : K 1 = .int .i64 a)
    (hK : ∀ q, q < 512 → K (10 + q) = .int .u8 (m q)) (hm : isBy 512 m) (hv : isBy 8 v) :
    FnS Tryz.prog 38 [.arr 522 K, .arr 8 (bys v)] H n (fun r H' _ => r = .arr 64 (bys (lft p m v a)) ∧ H' = H) := by
  refine FnS.of_body Tryz.func38 tr38 (by simp) (fun hf => ?_)
  dsimp only [argEnv]
  unfold ir38
  (repeat first|refine zG ?_|(refine LS.nilO ?_;intro nq hnq hltq;try refine zU ?_)|(refine MS.new ?_;intro bq hbq hbqf;try refine zU ?_)|(refine MS.nil ?_;intro nq hnq hltq;have hlq:=hltq _ _ (Hp.get_eq _ _ _);clear hltq;try refine zU ?_)|(refine LS.nilQ ?_;try with_reducible intro nq hnq;try refine zU ?_))
  refine CS.iter a (fun i => [(6, i64 i), (2, ptr n 0), (3, ptr (n + 1) 0), (4, ptr (n + 2) 0), (5, ptr (n + 3) 0)])
    (fun i => (n + 3, ⟨64, bys (rowsTo (fun _ => 0) (lfm p m v a) i), 27⟩) :: (n + 2, ⟨64, bys (fun _ => 0), 27⟩) :: (n + 1, ⟨8, bys v, 25⟩) :: (n, ⟨522, K, 31⟩) :: H) (fun _ => True) (by (repeat first | exact trivial | refine And.intro rfl ?_))
    (Drops.keepc rfl rfl (fun _ _ => by rw [rowsTo_zero]; rfl) (Drops.keepc rfl rfl (fun _ _ => rfl) (Drops.refl _ _))) trivial ?_
  intro i n2 hi hn _
  (repeat first|refine zG ?_|(refine LS.nilO ?_;intro nq hnq hltq;try refine zU ?_)|(refine MS.new ?_;intro bq hbq hbqf;try refine zU ?_)|(refine MS.nil ?_;intro nq hnq hltq;have hlq:=hltq _ _ (Hp.get_eq _ _ _);clear hltq;try refine zU ?_)|(refine LS.nilQ ?_;try with_reducible intro nq hnq;try refine zU ?_))
  refine zI ?_ ?_<;>intro h2
  · (repeat first|refine zG ?_|(refine LS.nilO ?_;intro nq hnq hltq;try refine zU ?_)|(refine MS.new ?_;intro bq hbq hbqf;try refine zU ?_)|(refine MS.nil ?_;intro nq hnq hltq;have hlq:=hltq _ _ (Hp.get_eq _ _ _);clear hltq;try refine zU ?_)|(refine LS.nilQ ?_;try with_reducible intro nq hnq;try refine zU ?_))
    refine CS.tailLo _ (List.Mem.head _) ?_; dsimp only [List.take, List.drop]
    (repeat first|refine zG ?_|(refine LS.nilO ?_;intro nq hnq hltq;try refine zU ?_)|(refine MS.new ?_;intro bq hbq hbqf;try refine zU ?_)|(refine MS.nil ?_;intro nq hnq hltq;have hlq:=hltq _ _ (Hp.get_eq _ _ _);clear hltq;try refine zU ?_)|(refine LS.nilQ ?_;try with_reducible intro nq hnq;try refine zU ?_))
    refine LS.callQ (.arr 8 (bys (bas i))) rfl (fun n' hn' => spec_l01Basis i _ _ (by omega)) ?_
    (repeat first|refine zG ?_|(refine LS.nilO ?_;intro nq hnq hltq;try refine zU ?_)|(refine MS.new ?_;intro bq hbq hbqf;try refine zU ?_)|(refine MS.nil ?_;intro nq hnq hltq;have hlq:=hltq _ _ (Hp.get_eq _ _ _);clear hltq;try refine zU ?_)|(refine LS.nilQ ?_;try with_reducible intro nq hnq;try refine zU ?_))
    refine LS.callQ (.arr 8 (bys (pr p m v (bas i) a))) rfl (fun n' hn' => spec_l01Times p a m v (bas i) K _ _ hp ha h0 h1 hK hm hv (bas_by _ _)) ?_
    (repeat first|refine zG ?_|(refine LS.nilO ?_;intro nq hnq hltq;try refine zU ?_)|(refine MS.new ?_;intro bq hbq hbqf;try refine zU ?_)|(refine MS.nil ?_;intro nq hnq hltq;have hlq:=hltq _ _ (Hp.get_eq _ _ _);clear hltq;try refine zU ?_)|(refine LS.nilQ ?_;try with_reducible intro nq hnq;try refine zU ?_))
    exact ⟨by omega, by (repeat first | exact trivial | refine And.intro rfl ?_), Drops.keepc rfl rfl (fun q hq => rowsTo_step (fun y hy => lfm_at _ _ _ _ _ _ hy) q) (Drops.refl _ _), trivial⟩
  · obtain rfl : i = a := by omega
    (repeat first|refine zG ?_|(refine LS.nilO ?_;intro nq hnq hltq;try refine zU ?_)|(refine MS.new ?_;intro bq hbq hbqf;try refine zU ?_)|(refine MS.nil ?_;intro nq hnq hltq;have hlq:=hltq _ _ (Hp.get_eq _ _ _);clear hltq;try refine zU ?_)|(refine LS.nilQ ?_;try with_reducible intro nq hnq;try refine zU ?_))
    exact ⟨.arr 64 (bys (lft p m v i)), H, conc_arr (fun q hq => by first | rfl | (simp only [Nat.zero_add]; done) | (simp only [Nat.zero_add]; rfl)), by exact zD, rfl, rfl⟩

end Go.Proofs.YtgnphaopeplfbaaGreatDoor

/- The spec's reduction of the rows of a table, one by one. -/

namespace Go.V

variable [BW]

set_option linter.unusedSimpArgs false

set_option linter.unusedVariables false

/-- A slice of m vectors, which lie in the block b. -/
def VL (H : Hp) (v : SV) (m : Nat) (I : Nat → Nat → Int) (b : Nat) : Prop :=
  ∃ o cap k, v = .slc b o m cap ∧ H.get b = some k ∧ o + cap * 8 ≤ k.size ∧ m ≤ cap ∧ ∀ i x, i < m → x < 8 → k.c (o + (i * 8 + x)) = .int .u8 (I i x)

theorem VL.keep {H H' : Hp} {v : SV} {m : Nat} {I : Nat → Nat → Int} {b : Nat} (h : VL H v m I b) (hg : H'.get b = H.get b) : VL H' v m I b := by
  obtain ⟨o, cap, k, h1, h2, h3⟩ := h
  exact ⟨o, cap, k, h1, hg.trans h2, h3⟩

theorem VL.slice {H : Hp} {v : SV} {m : Nat} {I : Nat → Nat → Int} {b : Nat} (h : VL H v m I b) : ∃ cap, sliceV H 8 v m cap (fun i => .int .u8 (I (i / 8) (i % 8))) := by
  obtain ⟨o, cap, k, h1, h2, h3, h4, h5⟩ := h
  refine ⟨cap, .inr ⟨b, o, k, h1, h2, h3, h4, fun i hi => ?_⟩⟩
  show _ = SV.int IntKind.u8 (I (i / 8) (i % 8))
  rw [← h5 (i / 8) (i % 8) (by omega) (by omega), show i / 8 * 8 + i % 8 = i by omega]

section

variable {P : Program} {N mm : Nat} {e : Env} {H : Hp} {n : Nat} {l : List Ins} {d : Option Nat} {K : Env → Hp → Nat → Prop}

/-- One more vector. -/
theorem RS.appV {t : TypeId} {x y : X} {v : SV} {m b b2 : Nat} {I : Nat → Nat → Int} {w : Nat → Int} {k2 : Blk} {z : Zs}
    (hx : x.ev e = some (.s v)) (hy : y.ev e = some (.s (.slc b2 0 1 1))) (hV : VL H v m I b) (hb2 : H.get b2 = some k2) (hs2 : k2.size = 8) (hc2 : ∀ q, q < 8 → k2.c q = .int .u8 (w q)) (hm : m ≤ 4000000) (hf : H.get n = none) (hbn : b < n)
    (h : ∀ v' b' H' n', VL H' v' (m + 1) (snc I m w) b' → (b' = b ∨ b' = n) → b' < n' → n ≤ n' → n' ≤ n + 1 → (∀ x, x ≠ b' → H'.get x = H.get x) → LS P N mm (.seq K) l (putD d (.s v') e) H' n') :
    LS P N mm (.seq K) (⟨d, none, .app t 8 8 z x y⟩ :: l) e H n := by
  obtain ⟨o, cap, k, rfl, hk, ho, hmc, hc⟩ := hV
  refine RS.app (len2 := 1) (cap2 := 1) (c := fun i => .int .u8 (I (i / 8) (i % 8))) (c2 := fun i => .int .u8 (w i)) hx hy (.inr ⟨b, o, k, rfl, hk, ho, hmc, fun i hi => ?_⟩) (.inr ⟨b2, 0, k2, rfl, hb2, by omega, Nat.le_refl _, fun i hi => by rw [Nat.zero_add]; exact hc2 i (by omega)⟩) (by omega) (by omega) (fun hle => ⟨fun b' o' k' he hk' => ?_, fun he => by cases he⟩) (fun hlt cap' hcap => ?_)
  · show _ = SV.int IntKind.u8 (I (i / 8) (i % 8))
    rw [← hc (i / 8) (i % 8) (by omega) (by omega), show i / 8 * 8 + i % 8 = i by omega]
  · cases he
    rw [hk] at hk'
    cases hk'
    refine h _ b _ n ⟨o, cap, _, rfl, Hp.get_set_self _ hk, ho, hle, fun i x hi hx => ?_⟩ (.inl rfl) hbn (Nat.le_refl _) (by omega) (fun x hx => Hp.get_set_other _ (fun q => hx q.symm))
    (try dsimp only)
    unfold splice snc
    by_cases e1 : i = m
    · subst e1
      rw [if_pos (by omega), if_pos rfl]
      congr 2; omega
    · rw [if_neg (by omega), if_neg e1]
      exact hc i x (by omega) hx
  · refine h _ n _ (n + 1) ⟨0, cap', _, rfl, Hp.get_eq _ _ _, by (try dsimp only); omega, hcap, fun i x hi hx => ?_⟩ (.inr rfl) (by omega) (by omega) (by omega) (fun x hx => Hp.get_ne _ _ (fun q => hx q.symm))
    (try dsimp only)
    unfold joinC snc
    rw [Nat.zero_add]
    by_cases e1 : i = m
    · subst e1
      rw [if_pos (by omega), if_neg (by omega), if_pos rfl]
      congr 2; omega
    · rw [if_pos (by omega), if_pos (by omega), if_neg e1]
      show SV.int IntKind.u8 (I ((i * 8 + x) / 8) ((i * 8 + x) % 8)) = _
      rw [show (i * 8 + x) / 8 = i by omega, show (i * 8 + x) % 8 = x by omega]

end

/-- What the loop over the rows of f knows. -/
structure SolS (H0 : Hp) (n0 : Nat) (ty : TypeId) (p : Int) (f : Nat → Int) (n i m kk : Nat) (I S Kr : Nat → Nat → Int) (v9 v10 v11 : SV) (b9 b10 b11 : Nat) (H1 : Hp) (n1 : Nat) : Prop where
  src : SRC p f n I S m i
  gs : gsr p f i = (m, I, S)
  l9 : VL H1 v9 m I b9
  l10 : VL H1 v10 m S b10
  l11 : VL H1 v11 kk Kr b11
  kki : kk ≤ i
  d1 : b9 ≠ b10
  d2 : b9 ≠ b11
  d3 : b10 ≠ b11
  g9 : n0 < b9 ∧ b9 < n1
  g10 : n0 < b10 ∧ b10 < n1
  g11 : n0 < b11 ∧ b11 < n1
  g5 : H1.get n0 = some ⟨64, bys f, ty⟩
  low : ∀ x, x < n0 → H1.get x = H0.get x
  fresh : ∀ x, n1 ≤ x → H1.get x = none

end Go.V

namespace Go.Proofs.YtgnphaopeplfbaaGreatDoor

open Go.V

variable [BW]

set_option linter.unusedSimpArgs false

set_option linter.unusedVariables false

set_option maxHeartbeats 4000000

theorem spec_l01AddN (p k : Int) (v w : Nat → Int) (H : Hp) (n : Nat) (hp : 2 ≤ p ∧ p ≤ 31) (hv : isBy 8 v) (hw : isBy 8 w) (hk : -100000 ≤ k ∧ k ≤ 100000) :
    FnS Tryz.prog 60 [i64 p, .arr 8 (bys v), .arr 8 (bys w), i64 k] H n (fun r H' _ => r = .arr 8 (bys (pl p v k w)) ∧ H' = H) := by
  refine FnS.of_body Tryz.func60 tr60 (by simp) (fun hf => ?_)
  dsimp only [argEnv]
  unfold ir60
  (refine zG ?_)
  refine CS.iter 8 (fun i => [(9, i64 i), (8, ptr (n + 2) 0), (6, ptr (n + 1) 0), (5, ptr n 0), (0, i64 p), (3, i64 k)])
    (fun i => (n + 2, ⟨8, bys (fun _ => 0), 25⟩) :: (n + 1, ⟨8, bys w, 25⟩) :: (n, ⟨8, bys (prt (pl p v k w) v i), 25⟩) :: H) (fun _ => True) (by (repeat first | exact trivial | refine And.intro rfl ?_))
    (Drops.keepc rfl rfl (fun _ _ => rfl) (Drops.keepc rfl rfl (fun _ _ => rfl) (by rw [prt_zero]; exact Drops.refl _ _))) trivial ?_
  intro i n1 hi hn _
  (refine zG ?_)
  refine zI ?_ ?_<;>intro h1
  · have hpi := prt_at (pl p v k w) v i
    have hvi := hv i (by omega)
    have hwi := hw i (by omega)
    have hm : -25500000 ≤ k * w i ∧ k * w i ≤ 25500000 := by
      rcases Int.le_total 0 k with h0 | h0
      · have := mulB h0 hk.2 hwi.1 hwi.2; omega
      · have := mulB (show 0 ≤ -k by omega) (show -k ≤ 100000 by omega) hwi.1 hwi.2
        rw [Int.neg_mul] at this; omega
    have hb := modB (v i + k * w i) hp.1
    have hpl : (prt (pl p v k w) v i i + k * w i) % p = pl p v k w i := by rw [hpi]; rfl
    have hplb : 0 ≤ pl p v k w i ∧ pl p v k w i < p := hb
    (refine zG ?_)
    refine LS.callQ (u8 (pl p v k w i)) rfl (fun n' hn' => (spec_l01Mod p (prt (pl p v k w) v i i + k * w i) _ _ hp.1 hp.2 (by omega)).mono (fun r H' _ _ h => by rw [hpl] at h; exact h)) ?_
    (repeat first|refine zG ?_|(refine LS.nilQ ?_;try with_reducible intro nq hnq;try refine zU ?_))
    exact ⟨by omega, by (repeat first | exact trivial | refine And.intro rfl ?_), Drops.keepc rfl rfl (fun _ _ => rfl) (Drops.keepc rfl rfl (fun _ _ => rfl) (Drops.keepc rfl rfl (fun q hq => prt_put _ _ _ _) (Drops.refl _ _))), trivial⟩
  · have : i = 8 := by omega
    subst this
    (refine zG ?_)
    exact ⟨.arr 8 (bys (pl p v k w)), H, conc_arr (fun q hq => congrArg (SV.int .u8) (by simp only [Nat.zero_add]; exact prt_all _ _ _ _ hq)), by exact zD, rfl, rfl⟩

/-- spec.l01Solve -/
def ir71 : Cd := (.seq (.reg [⟨some 5,none,.box 27 (.t 2)⟩,⟨some 6,none,.mov (.c .nils)⟩,⟨some 7,none,.mov (.c .nils)⟩,⟨some 8,none,.mov (.c .nils)⟩]) (.seq (.reg [⟨some 19,none,.bsl 25 0 8 [(8,(.int .u8 0))] []⟩,⟨some 20,none,.bsl 25 0 8 [(8,(.int .u8 0))] []⟩,⟨some 21,none,.bsl 25 0 8 [(8,(.int .u8 0))] []⟩,⟨some 9,none,.mov (.t 19)⟩,⟨some 10,none,.mov (.t 20)⟩,⟨some 11,none,.mov (.t 21)⟩]) (.seq (.seq (.reg [⟨some 12,none,.mov (.c (.int .i64 0))⟩]) (.block 0 (.loop (.seq (.seq (.reg [⟨some 22,none,.mov (.t 12)⟩,⟨some 23,none,.mov (.t 1)⟩,⟨some 24,none,.bin .lss (.t 22) (.t 23)⟩]) (.cond (.t 24) .skip (.exit 0))) (.seq (.block 1 (.seq (.mixt [] [⟨some 27,none,.mov (.t 12)⟩,⟨some 28,none,.ia 8 8 (.t 5) (.t 27)⟩,⟨some 29,none,.ld (some 8) (.t 28)⟩,⟨some 30,none,.mov (.t 12)⟩,⟨some 31,none,.call 74 [(.t 30)]⟩] [⟨some 27,none,.mov (.t 12)⟩,⟨some 28,none,.ia 8 8 (.t 5) (.t 27)⟩,⟨some 29,none,.ld (some 8) (.t 28)⟩,⟨some 30,none,.mov (.t 12)⟩,⟨some 31,none,.call 74 [(.t 30)]⟩,⟨some 13,none,.new 25 [(8,(.int .u8 0))]⟩,⟨some 14,none,.new 25 [(8,(.int .u8 0))]⟩,⟨none,none,.st 8 (.t 13) (.t 29)⟩,⟨none,none,.st 8 (.t 14) (.t 31)⟩] (.fork (.seg 5 (.seg 6 (.seg 7 (.seg 8 .done)))) (.seg 6 (.seg 5 (.seg 7 (.seg 8 .done)))))) (.seq (.seq (.reg [⟨some 15,none,.mov (.c (.int .i64 0))⟩]) (.block 2 (.loop (.seq (.seq (.reg [⟨some 32,none,.mov (.t 15)⟩,⟨some 33,none,.mov (.t 9)⟩,⟨some 34,none,.len (.t 33)⟩,⟨some 35,none,.bin .lss (.t 32) (.t 34)⟩]) (.cond (.t 35) .skip (.exit 2))) (.seq (.block 3 (.seq (.reg [⟨some 38,none,.mov (.t 9)⟩,⟨some 39,none,.mov (.t 15)⟩,⟨some 40,none,.isl 8 (.t 38) (.t 39)⟩,⟨some 41,none,.ld (some 8) (.t 40)⟩,⟨some 42,none,.call 72 [(.t 41)]⟩,⟨some 16,none,.mov (.t 42)⟩]) (.seq (.reg [⟨some 43,none,.mov (.t 16)⟩,⟨some 44,none,.ia 8 1 (.t 13) (.t 43)⟩,⟨some 45,none,.ld none (.t 44)⟩,⟨some 46,none,.bin .neq (.t 45) (.c (.int .u8 0))⟩]) (.cond (.t 46) (.seq (.reg [⟨some 47,none,.mov (.t 16)⟩,⟨some 48,none,.ia 8 1 (.t 13) (.t 47)⟩,⟨some 49,none,.ld none (.t 48)⟩,⟨some 50,none,.cv .i64 (.t 49)⟩,⟨some 51,none,.un .neg (.t 50)⟩,⟨some 17,none,.mov (.t 51)⟩]) (.seq (.drw true [7,8] [⟨some 52,none,.mov (.t 0)⟩,⟨some 53,none,.ld (some 8) (.t 13)⟩,⟨some 54,none,.mov (.t 9)⟩,⟨some 55,none,.mov (.t 15)⟩,⟨some 56,none,.isl 8 (.t 54) (.t 55)⟩,⟨some 57,none,.ld (some 8) (.t 56)⟩,⟨some 58,none,.mov (.t 17)⟩,⟨some 59,none,.call 60 [(.t 52),(.t 53),(.t 57),(.t 58)]⟩,⟨none,none,.st 8 (.t 13) (.t 59)⟩]) (.drw true [7,8] [⟨some 60,none,.mov (.t 0)⟩,⟨some 61,none,.ld (some 8) (.t 14)⟩,⟨some 62,none,.mov (.t 10)⟩,⟨some 63,none,.mov (.t 15)⟩,⟨some 64,none,.isl 8 (.t 62) (.t 63)⟩,⟨some 65,none,.ld (some 8) (.t 64)⟩,⟨some 66,none,.mov (.t 17)⟩,⟨some 67,none,.call 60 [(.t 60),(.t 61),(.t 65),(.t 66)]⟩,⟨none,none,.st 8 (.t 14) (.t 67)⟩]))) .skip)))) (.reg [⟨some 36,none,.mov (.t 15)⟩,⟨some 37,none,.bin .add (.t 36) (.c (.int .i64 1))⟩,⟨some 15,none,.mov (.t 37)⟩])))))) (.seq (.seq (.reg [⟨some 68,none,.ld (some 8) (.t 13)⟩,⟨some 69,none,.call 73 [(.t 68)]⟩]) (.cond (.t 69) (.seq (.reg [⟨some 70,none,.mov (.t 11)⟩,⟨some 71,none,.ld (some 8) (.t 14)⟩,⟨some 72,none,.bsl 25 1 8 [(8,(.int .u8 0))] [(0,8,(.t 71))]⟩,⟨some 73,none,.app 25 8 8 [(8,(.int .u8 0))] (.t 70) (.t 72)⟩,⟨some 11,none,.mov (.t 73)⟩]) (.exit 1)) .skip)) (.seq (.reg [⟨some 74,none,.mov (.t 0)⟩,⟨some 75,none,.ld (some 8) (.t 13)⟩,⟨some 76,none,.call 72 [(.t 75)]⟩,⟨some 77,none,.ia 8 1 (.t 13) (.t 76)⟩,⟨some 78,none,.ld none (.t 77)⟩,⟨some 79,none,.call 106 [(.t 74),(.t 78)]⟩,⟨some 80,none,.cv .i64 (.t 79)⟩,⟨some 18,none,.mov (.t 80)⟩]) (.seq (.reg [⟨some 81,none,.mov (.t 9)⟩,⟨some 82,none,.mov (.t 0)⟩,⟨some 83,none,.build 8 [(8,(.int .u8 0))] []⟩,⟨some 84,none,.ld (some 8) (.t 13)⟩,⟨some 85,none,.mov (.t 18)⟩,⟨some 86,none,.call 60 [(.t 82),(.t 83),(.t 84),(.t 85)]⟩,⟨some 87,none,.bsl 25 1 8 [(8,(.int .u8 0))] [(0,8,(.t 86))]⟩,⟨some 88,none,.app 25 8 8 [(8,(.int .u8 0))] (.t 81) (.t 87)⟩,⟨some 9,none,.mov (.t 88)⟩]) (.reg [⟨some 89,none,.mov (.t 10)⟩,⟨some 90,none,.mov (.t 0)⟩,⟨some 91,none,.build 8 [(8,(.int .u8 0))] []⟩,⟨some 92,none,.ld (some 8) (.t 14)⟩,⟨some 93,none,.mov (.t 18)⟩,⟨some 94,none,.call 60 [(.t 90),(.t 91),(.t 92),(.t 93)]⟩,⟨some 95,none,.bsl 25 1 8 [(8,(.int .u8 0))] [(0,8,(.t 94))]⟩,⟨some 96,none,.app 25 8 8 [(8,(.int .u8 0))] (.t 89) (.t 95)⟩,⟨some 10,none,.mov (.t 96)⟩]))))))) (.reg [⟨some 25,none,.mov (.t 12)⟩,⟨some 26,none,.bin .add (.t 25) (.c (.int .i64 1))⟩,⟨some 12,none,.mov (.t 26)⟩])))))) (.seq (.reg [⟨some 97,none,.mov (.t 9)⟩,⟨some 98,none,.mov (.t 10)⟩,⟨some 99,none,.mov (.t 11)⟩,⟨some 6,none,.mov (.t 97)⟩,⟨some 7,none,.mov (.t 98)⟩,⟨some 8,none,.mov (.t 99)⟩]) .ret))))

set_option maxRecDepth 100000 in
theorem tr71 : trFn Tryz.prog Tryz.f71 = some (100, ir71, [.tmp 6, .tmp 7, .tmp 8]) := by kernel_rfl

theorem spec_l01Solve (p : Int) (a : Nat) (f : Nat → Int) (H : Hp) (n : Nat) (hp : isP p = true) (ha : a ≤ 8) (hfr : isRes p 64 f) :
    FnS Tryz.prog 71 [i64 p, i64 a, .arr 64 (bys f)] H n (fun r H' n' => ∃ m I S v9 v10 v11 b9 b10, r = .tup [.s v9, .s v10, .s v11] ∧ SRC p f a I S m a ∧ gsr p f a = (m, I, S) ∧ VL H' v9 m I b9 ∧ VL H' v10 m S b10 ∧ (n ≤ b9 ∧ b9 < n') ∧ (n ≤ b10 ∧ b10 < n') ∧ ∀ x, x < n → H'.get x = H.get x) := by
  have hb := isP_le hp
  have hfb : isBy 64 f := isRes.by hfr hb.2
  refine FnS.of_body Tryz.func71 tr71 (by simp) (fun hf => ?_)
  dsimp only [argEnv]
  unfold ir71
  (refine zG ?_)
  refine CS.weak (e1 := [(12, i64 ((0 : Nat) : Int)), (0, i64 p), (1, i64 a), (5, ptr n 0), (9, .s (.slc (n + 1) 0 0 0)), (10, .s (.slc (n + 2) 0 0 0)), (11, .s (.slc (n + 3) 0 0 0))]) (by (repeat first | exact trivial | refine And.intro rfl ?_)) (Drops.refl _ _) ?_
  refine CS.loop (fun k e H1 n1 => ∃ i m kk I S Kr v9 v10 v11 b9 b10 b11, i ≤ a ∧ k = a - i ∧ e = [(12, i64 (i : Nat)), (0, i64 p), (1, i64 a), (5, ptr n 0), (9, .s v9), (10, .s v10), (11, .s v11)] ∧ SolS H n 27 p f a i m kk I S Kr v9 v10 v11 b9 b10 b11 H1 n1) a ?_ ?_
  · refine ⟨0, 0, 0, fun _ _ => 0, fun _ _ => 0, fun _ _ => 0, _, _, _, n + 1, n + 2, n + 3, Nat.zero_le _, rfl, rfl, ?_⟩
    exact { src := SRC.zero f a _ _, gs := rfl, l9 := ⟨0, 0, _, rfl, by exact zH, by simp, Nat.le_refl _, fun i x hi => by omega⟩, l10 := ⟨0, 0, _, rfl, by exact zH, by simp, Nat.le_refl _, fun i x hi => by omega⟩, l11 := ⟨0, 0, _, rfl, by exact zH, by simp, Nat.le_refl _, fun i x hi => by omega⟩,
            kki := Nat.le_refl _, d1 := by omega, d2 := by omega, d3 := by omega, g9 := by omega, g10 := by omega, g11 := by omega, g5 := by exact zH, low := fun x hx => by simp (disch := omega) only [Hp.get_ne], fresh := fun x hx => by simp (disch := omega) only [Hp.get_ne]; exact hf x (by omega) }
  rintro k e H1 n1 hn1 ⟨i, m, kk, I, S, Kr, v9, v10, v11, b9, b10, b11, hi, rfl, rfl, hJ⟩
  obtain ⟨hsrc, hgs, hl9, hl10, hl11, hkki, d1, d2, d3, g9, g10, g11, g5, hlow, hfr1⟩ := hJ
  obtain ⟨o9, c9, K9, rfl, gb9, ho9, hm9, hc9⟩ := hl9
  obtain ⟨o10, c10, K10, rfl, gb10, ho10, hm10, hc10⟩ := hl10
  have hmi := hsrc.mi
  have g5n : n < n1 := by omega
  (refine zG ?_)
  refine zI ?_ ?_<;>intro h2
  · (refine zG ?_)
    refine CS.mixtL _ (fun _ _ h => h) ?_
    (repeat first|refine zG ?_|(refine LS.nilQ ?_;try with_reducible intro nq hnq;try refine zU ?_))
    refine LS.callQ (.arr 8 (bys (bas i))) rfl (fun n' hn' => spec_l01Basis i _ _ (by omega)) ?_
    (repeat first|refine zG ?_|(refine LS.nilQ ?_;try with_reducible intro nq hnq;try refine zU ?_))
    refine MTW.two (fun b13 b14 => [(13, ptr b13 0), (14, ptr b14 0), (12, i64 (i : Nat)), (0, i64 p), (1, i64 a), (5, ptr n 0), (9, .s (.slc b9 o9 m c9)), (10, .s (.slc b10 o10 m c10)), (11, .s v11)]) rfl rfl rfl rfl (by decide) (by decide) rfl rfl (fun b1 b2 => by (repeat first | exact trivial | refine And.intro rfl ?_)) (fun b1 b2 => by (repeat first | exact trivial | refine And.intro rfl ?_)) ?_
    intro b13 b14 n2 q13 q14 hne f13 f14 l13 l14 hn2
    have h2' : i < a := by omega
    have hbr : isRes p 8 (bas i) := fun x hx => by unfold bas; split <;> omega
    have hro : isRes p 8 (fun x => f (8 * i + x)) := fun x hx => hfr _ (by omega)
    (refine zG ?_)
    refine CS.iter m (fun k => [(15, i64 k), (13, ptr b13 0), (14, ptr b14 0), (12, i64 (i : Nat)), (0, i64 p), (1, i64 a), (5, ptr n 0), (9, .s (.slc b9 o9 m c9)), (10, .s (.slc b10 o10 m c10)), (11, .s v11)])
      (fun k => (b13, ⟨8, bys (rdk p I (fun x => f (8 * i + x)) k), 25⟩) :: (b14, ⟨8, bys (rdw p I S (fun x => f (8 * i + x)) (bas i) (-1) k), 25⟩) :: H1) (fun _ => True) (by (repeat first | exact trivial | refine And.intro rfl ?_)) (Drops.refl _ _) trivial ?_
    intro k n3 hk hn3 _
    (refine zG ?_)
    refine zI ?_ ?_<;>intro h3
    · have e9 : ∀ q, q < 8 → K9.c (o9 + k * 8 + q) = .int .u8 (I k q) := fun q hq => by rw [Nat.add_assoc]; exact hc9 k q (by omega) hq
      have e10 : ∀ q, q < 8 → K10.c (o10 + k * 8 + q) = .int .u8 (S k q) := fun q hq => by rw [Nat.add_assoc]; exact hc10 k q (by omega) hq
      have hIb : isBy 8 (I k) := isRes.by (hsrc.res k (by omega)) hb.2
      have hSb : isBy 8 (S k) := isRes.by (hsrc.sres k (by omega)) hb.2
      have hlt := hsrc.lt k (by omega)
      have hrk : isRes p 8 (rdk p I (fun x => f (8 * i + x)) k) := rdk_res hb.1 hro k
      have hrw : isRes p 8 (rdw p I S (fun x => f (8 * i + x)) (bas i) (-1) k) := rdw_res hb.1 hbr k
      have hrt := hrk (fsn (I k) 8) hlt
      have hr1 : (bys (rdk p I (fun x => f (8 * i + x)) k)) (fsn (I k) 8) = .int .u8 (rdk p I (fun x => f (8 * i + x)) k (fsn (I k) 8)) := rfl
      (refine zG ?_)
      refine RS.call rfl ((spec_l01First (I k) _ _).mono ?_)
      rintro r H' n4 hn4 ⟨rfl, rfl⟩
      (refine zG ?_)
      refine zI ?_ ?_<;>intro h4
      · (refine zG ?_)
        refine RS.neg64 (by exact rfl) (by omega) ?_
        (repeat first|refine zG ?_|(refine LS.nilQ ?_;try with_reducible intro nq hnq;try refine zU ?_))
        refine RS.call rfl ((spec_l01AddN p (-(rdk p I (fun x => f (8 * i + x)) k (fsn (I k) 8))) (rdk p I (fun x => f (8 * i + x)) k) (I k) _ _ hb (isRes.by hrk hb.2) hIb (by omega)).mono ?_)
        rintro r H' n5 hn5 ⟨rfl, rfl⟩
        (repeat first|refine zG ?_|(refine LS.nilQ ?_;try with_reducible intro nq hnq;try refine zU ?_))
        refine RS.call rfl ((spec_l01AddN p (-(rdk p I (fun x => f (8 * i + x)) k (fsn (I k) 8))) (rdw p I S (fun x => f (8 * i + x)) (bas i) (-1) k) (S k) _ _ hb (isRes.by hrw hb.2) hSb (by omega)).mono ?_)
        rintro r H' n6 hn6 ⟨rfl, rfl⟩
        (refine zG ?_)
        exact ⟨by omega, by (repeat first | exact trivial | refine And.intro rfl ?_), Drops.keepc rfl rfl (fun _ _ => rfl) (Drops.keepc rfl rfl (fun q hq => by rw [rdw_succ, Int.neg_one_mul]) (Drops.refl _ _)), trivial⟩
      · (refine zG ?_)
        exact ⟨by omega, by (repeat first | exact trivial | refine And.intro rfl ?_), Drops.keepc rfl rfl (fun q hq => congrArg (SV.int .u8) (rdk_same hb.1 hro h4 hq).symm) (Drops.keepc rfl rfl (fun q hq => congrArg (SV.int .u8) (rdw_same hb.1 hbr h4 hq).symm) (Drops.refl _ _)), trivial⟩
    · obtain rfl : k = m := by omega
      have hrk : isRes p 8 (rdk p I (fun x => f (8 * i + x)) k) := rdk_res hb.1 hro k
      have hrw : isRes p 8 (rdw p I S (fun x => f (8 * i + x)) (bas i) (-1) k) := rdw_res hb.1 hbr k
      obtain ⟨U, hU⟩ : ∃ U, U = rdk p I (fun x => f (8 * i + x)) k := ⟨_, rfl⟩
      obtain ⟨W, hW⟩ : ∃ W, W = rdw p I S (fun x => f (8 * i + x)) (bas i) (-1) k := ⟨_, rfl⟩
      rw [← hU] at hrk
      rw [← hW] at hrw
      rw [← hU, ← hW]
      (refine zG ?_)
      refine RS.call rfl ((spec_l01Zero U _ _).mono ?_)
      rintro r H' n4 hn4 ⟨rfl, rfl⟩
      (refine zG ?_)
      refine zI ?_ ?_<;>intro h5
      · (refine zG ?_)
        refine RS.appV (w := W) (by exact rfl) (by exact rfl) (hl11.keep (by simp (disch := omega) only [Hp.get_ne])) (by exact zH) rfl (fun q hq => ?_) (by omega) (by simp (disch := omega) only [Hp.get_ne]; exact hfr1 _ (by omega)) (by omega) ?_
        · (try dsimp only)
          unfold splice; rw [if_pos (by omega), Nat.sub_zero]; rfl
        intro v' b' H' n5 hV hb' hlt' hn5 hn5' hg'
        (refine zG ?_)
        refine ⟨a - (i + 1), [(12, i64 ((i + 1 : Nat) : Int)), (0, i64 p), (1, i64 a), (5, ptr n 0), (9, .s (.slc b9 o9 k c9)), (10, .s (.slc b10 o10 k c10)), (11, .s v')], H', by omega, by (repeat first | exact trivial | refine And.intro rfl ?_), Drops.refl _ _, i + 1, k, kk + 1, I, S, snc Kr kk W, _, _, _, b9, b10, b', by omega, rfl, rfl, ?_⟩
        have e9 : H'.get b9 = H1.get b9 := by rw [hg' b9 (by omega)]; simp (disch := omega) only [Hp.get_ne]
        have e10 : H'.get b10 = H1.get b10 := by rw [hg' b10 (by omega)]; simp (disch := omega) only [Hp.get_ne]
        exact { src := hsrc.ker (fun x hx => by rw [← hU]; exact h5 x hx), gs := gsr_ker hgs (fun x hx => by rw [← hU]; exact h5 x hx), l9 := ⟨o9, c9, K9, rfl, e9.trans gb9, ho9, hm9, hc9⟩, l10 := ⟨o10, c10, K10, rfl, e10.trans gb10, ho10, hm10, hc10⟩, l11 := hV, kki := by omega, d1 := d1, d2 := by omega, d3 := by omega, g9 := by omega, g10 := by omega, g11 := by omega,
                g5 := by rw [hg' n (by omega)]; simp (disch := omega) only [Hp.get_ne]; exact g5
                low := fun x hx => by rw [hg' x (by omega)]; simp (disch := omega) only [Hp.get_ne]; exact hlow x hx
                fresh := fun x hx => by rw [hg' x (by omega)]; simp (disch := omega) only [Hp.get_ne]; exact hfr1 x (by omega) }
      · have hz0 : fsn U 8 < 8 := by
          rcases Nat.lt_or_ge (fsn U 8) 8 with h | h
          · exact h
          · exact absurd (fun q hq => fsn_low U 8 q (by omega)) h5
        have hu1 : (bys U) (fsn U 8) = .int .u8 (U (fsn U 8)) := rfl
        have hub := hrk (fsn U 8) hz0
        have hne0 : U (fsn U 8) % p ≠ 0 := by rw [modSelf hub]; exact fsn_hit U 8 hz0
        have hinv := inv_spec hp hne0
        (refine zG ?_)
        refine RS.call rfl ((spec_l01First U _ _).mono ?_)
        rintro r H' n5 hn5 ⟨rfl, rfl⟩
        (refine zG ?_)
        refine RS.call rfl ((spec_l01Inverse p (U (fsn U 8)) _ _ hp (by omega) hne0).mono ?_)
        rintro r H' n6 hn6 ⟨rfl, rfl⟩
        (refine zG ?_)
        refine RS.call rfl ((FnS.args (concs_cons rfl (concs_cons (conc_arr (fun q hq => rfl)) rfl)) (spec_l01AddN p (inv p (U (fsn U 8))) (fun _ => 0) U _ _ hb (fun _ _ => ⟨by (try dsimp only); omega, by (try dsimp only); omega⟩) (isRes.by hrk hb.2) (by omega))).mono ?_)
        rintro r H' n7 hn7 ⟨rfl, rfl⟩
        (refine zG ?_)
        refine RS.appV (w := pl p (fun _ => 0) (inv p (U (fsn U 8))) U) (by exact rfl) (by exact rfl) (VL.keep (H := H1) ⟨o9, c9, K9, rfl, gb9, ho9, hm9, hc9⟩ (by simp (disch := omega) only [Hp.get_ne])) (by exact zH) rfl (fun q hq => ?_) (by omega) (by simp (disch := omega) only [Hp.get_ne]; exact hfr1 _ (by omega)) (by omega) ?_
        · (try dsimp only)
          unfold splice; rw [if_pos (by omega), Nat.sub_zero]; rfl
        intro w9 x9 H2 n8 hV9 hx9 hl8 hn8 hn8' hg9
        have g14 : H2.get b14 = some ⟨8, bys W, 25⟩ := by rw [hg9 b14 (by omega)]; simp (disch := omega) only [Hp.get_ne, Hp.get_eq]
        (refine zG ?_)
        refine RS.call rfl ((FnS.args (concs_cons rfl (concs_cons (conc_arr (fun q hq => rfl)) rfl)) (spec_l01AddN p (inv p (U (fsn U 8))) (fun _ => 0) W _ _ hb (fun _ _ => ⟨by (try dsimp only); omega, by (try dsimp only); omega⟩) (isRes.by hrw hb.2) (by omega))).mono ?_)
        rintro r H2 n9 hn9 ⟨rfl, rfl⟩
        (refine zG ?_)
        have hf2 : ∀ x, n8 ≤ x → H2.get x = none := fun x hx => by rw [hg9 x (by omega)]; simp (disch := omega) only [Hp.get_ne]; exact hfr1 x (by omega)
        have e10 : H2.get b10 = H1.get b10 := by rw [hg9 b10 (by omega)]; simp (disch := omega) only [Hp.get_ne]
        refine RS.appV (w := pl p (fun _ => 0) (inv p (U (fsn U 8))) W) (by exact rfl) (by exact rfl) (VL.keep (H := H1) ⟨o10, c10, K10, rfl, gb10, ho10, hm10, hc10⟩ (by simp (disch := omega) only [Hp.get_ne]; exact e10)) (by exact zH) rfl (fun q hq => ?_) (by omega) (by simp (disch := omega) only [Hp.get_ne]; exact hf2 _ (by omega)) (by omega) ?_
        · (try dsimp only)
          unfold splice; rw [if_pos (by omega), Nat.sub_zero]; rfl
        intro w10 x10 H3 n10 hV10 hx10 hl10 hn10 hn10' hg10
        (refine zG ?_)
        have hlow2 : ∀ x, x ≠ x10 → x ≠ n9 → H3.get x = H2.get x := fun x q1 q2 => by rw [hg10 x q1]; simp (disch := omega) only [Hp.get_ne]
        have hlow1 : ∀ x, x ≠ x9 → x < n1 → H2.get x = H1.get x := fun x q1 q2 => by rw [hg9 x q1]; simp (disch := omega) only [Hp.get_ne]
        refine ⟨a - (i + 1), [(12, i64 ((i + 1 : Nat) : Int)), (0, i64 p), (1, i64 a), (5, ptr n 0), (9, .s w9), (10, .s w10), (11, .s v11)], H3, by omega, by (repeat first | exact trivial | refine And.intro rfl ?_), Drops.refl _ _, i + 1, k + 1, kk, snc I k (pl p (fun _ => 0) (inv p (U (fsn U 8))) U), snc S k (pl p (fun _ => 0) (inv p (U (fsn U 8))) W), Kr, _, _, _, x9, x10, b11, by omega, rfl, rfl, ?_⟩
        refine { src := hsrc.img hp h2' ha hfr U W hU hW hz0, gs := gsr_img hgs hU hW hz0, l9 := hV9.keep (hlow2 x9 (by omega) (by omega)), l10 := hV10, l11 := hl11.keep ((hlow2 b11 (by omega) (by omega)).trans (hlow1 b11 (by omega) (by omega))), kki := by omega, d1 := by omega, d2 := by omega, d3 := by omega, g9 := by omega, g10 := by omega, g11 := by omega, g5 := ?_, low := fun x hx => ?_, fresh := fun x hx => ?_ }
        · exact (hlow2 n (by omega) (by omega)).trans ((hlow1 n (by omega) (by omega)).trans g5)
        · exact (hlow2 x (by omega) (by omega)).trans ((hlow1 x (by omega) (by omega)).trans (hlow x hx))
        · exact (hlow2 x (by omega) (by omega)).trans (hf2 x (by omega))
  · obtain rfl : i = a := by omega
    (refine zG ?_)
    exact ⟨.tup [.s (.slc b9 o9 m c9), .s (.slc b10 o10 m c10), .s v11], H1, rfl, Drops.refl _ _, m, I, S, _, _, _, b9, b10, rfl, hsrc, hgs, ⟨o9, c9, K9, rfl, gb9, ho9, hm9, hc9⟩, ⟨o10, c10, K10, rfl, gb10, ho10, hm10, hc10⟩, by omega, by omega, hlow⟩

end Go.Proofs.YtgnphaopeplfbaaGreatDoor

/- What leads to a vector, codes of a vector of an algebra, inverses: the spec's. -/

namespace Go.V

theorem Drops.setself {m : Nat} {H : Hp} {b : Nat} {k : Blk} {c : Nat → SV} (hb : H.get b = some k) (hc : ∀ i, i < k.size → k.c i = c i) : Drops m H (H.set b c) := by
  intro b'
  by_cases e : b = b'
  · subst e; exact .inr ⟨k, _, hb, Hp.get_set_self c hb, rfl, rfl, hc⟩
  · rw [Hp.get_set_other _ e]; exact Drops.refl m H b'

end Go.V

namespace Go.Proofs.YtgnphaopeplfbaaGreatDoor

open Go.V

variable [BW]

set_option linter.unusedSimpArgs false

set_option linter.unusedVariables false

set_option maxHeartbeats 4000000

/-- spec.l01Lift -/
def ir37 : Cd := (.seq (.reg [⟨some 6,none,.box 27 (.t 2)⟩,⟨some 7,none,.box 25 (.t 3)⟩,⟨some 8,none,.new 25 [(8,(.int .u8 0))]⟩,⟨some 9,none,.mov (.c (.bool false))⟩]) (.seq (.reg [⟨some 18,none,.mov (.t 0)⟩,⟨some 19,none,.mov (.t 1)⟩,⟨some 20,none,.ld (some 64) (.t 6)⟩,⟨some 21,none,.call 71 [(.t 18),(.t 19),(.t 20)]⟩,⟨some 17,none,.mov (.t 21)⟩,⟨some 22,none,.ex (.t 17) 0⟩,⟨some 23,none,.ex (.t 17) 1⟩,⟨some 24,none,.ex (.t 17) 2⟩,⟨some 10,none,.mov (.t 22)⟩,⟨some 11,none,.mov (.t 23)⟩,⟨some 12,none,.mov (.t 24)⟩]) (.seq (.reg [⟨some 25,none,.build 8 [(8,(.int .u8 0))] []⟩,⟨some 13,none,.new 25 [(8,(.int .u8 0))]⟩,⟨none,none,.st 8 (.t 13) (.t 25)⟩]) (.seq (.seq (.reg [⟨some 14,none,.mov (.c (.int .i64 0))⟩]) (.block 0 (.loop (.seq (.seq (.reg [⟨some 26,none,.mov (.t 14)⟩,⟨some 27,none,.mov (.t 10)⟩,⟨some 28,none,.len (.t 27)⟩,⟨some 29,none,.bin .lss (.t 26) (.t 28)⟩]) (.cond (.t 29) .skip (.exit 0))) (.seq (.block 1 (.seq (.reg [⟨some 32,none,.mov (.t 10)⟩,⟨some 33,none,.mov (.t 14)⟩,⟨some 34,none,.isl 8 (.t 32) (.t 33)⟩,⟨some 35,none,.ld (some 8) (.t 34)⟩,⟨some 36,none,.call 72 [(.t 35)]⟩,⟨some 15,none,.mov (.t 36)⟩]) (.seq (.reg [⟨some 37,none,.mov (.t 15)⟩,⟨some 38,none,.ia 8 1 (.t 7) (.t 37)⟩,⟨some 39,none,.ld none (.t 38)⟩,⟨some 40,none,.bin .neq (.t 39) (.c (.int .u8 0))⟩]) (.cond (.t 40) (.seq (.reg [⟨some 41,none,.mov (.t 15)⟩,⟨some 42,none,.ia 8 1 (.t 7) (.t 41)⟩,⟨some 43,none,.ld none (.t 42)⟩,⟨some 44,none,.cv .i64 (.t 43)⟩,⟨some 16,none,.mov (.t 44)⟩]) (.seq (.drw true [8,9] [⟨some 45,none,.mov (.t 0)⟩,⟨some 46,none,.ld (some 8) (.t 7)⟩,⟨some 47,none,.mov (.t 10)⟩,⟨some 48,none,.mov (.t 14)⟩,⟨some 49,none,.isl 8 (.t 47) (.t 48)⟩,⟨some 50,none,.ld (some 8) (.t 49)⟩,⟨some 51,none,.mov (.t 16)⟩,⟨some 52,none,.un .neg (.t 51)⟩,⟨some 53,none,.call 60 [(.t 45),(.t 46),(.t 50),(.t 52)]⟩,⟨none,none,.st 8 (.t 7) (.t 53)⟩]) (.drw true [7,8] [⟨some 54,none,.mov (.t 0)⟩,⟨some 55,none,.ld (some 8) (.t 13)⟩,⟨some 56,none,.mov (.t 11)⟩,⟨some 57,none,.mov (.t 14)⟩,⟨some 58,none,.isl 8 (.t 56) (.t 57)⟩,⟨some 59,none,.ld (some 8) (.t 58)⟩,⟨some 60,none,.mov (.t 16)⟩,⟨some 61,none,.call 60 [(.t 54),(.t 55),(.t 59),(.t 60)]⟩,⟨none,none,.st 8 (.t 13) (.t 61)⟩]))) .skip)))) (.reg [⟨some 30,none,.mov (.t 14)⟩,⟨some 31,none,.bin .add (.t 30) (.c (.int .i64 1))⟩,⟨some 14,none,.mov (.t 31)⟩])))))) (.seq (.drw true [3] [⟨some 62,none,.ld (some 8) (.t 13)⟩,⟨some 63,none,.ld (some 8) (.t 7)⟩,⟨some 64,none,.call 73 [(.t 63)]⟩,⟨none,none,.st 8 (.t 8) (.t 62)⟩,⟨some 9,none,.mov (.t 64)⟩]) .ret)))))

set_option maxRecDepth 100000 in
theorem tr37 : trFn Tryz.prog Tryz.f37 = some (65, ir37, [.cell (some 8) 8, .tmp 9]) := by kernel_rfl

theorem spec_l01Lift (p : Int) (a : Nat) (f v : Nat → Int) (H : Hp) (n : Nat) (hp : isP p = true) (ha : a ≤ 8) (hfr : isRes p 64 f) (hv : isRes p 8 v) :
    FnS Tryz.prog 37 [i64 p, i64 a, .arr 64 (bys f), .arr 8 (bys v)] H n (fun r H' _ => r = .tup [.arr 8 (bys (lfw p f v a)), bl (tb (∀ q, q < 8 → lfr p f v a q = 0))] ∧ H' = H) := by
  have hb := isP_le hp
  refine FnS.of_body Tryz.func37 tr37 (by simp) (fun hf => ?_)
  dsimp only [argEnv]
  unfold ir37
  (repeat first|refine zG ?_|(refine LS.nilO ?_;intro nq hnq hltq;try refine zU ?_)|(refine MS.new ?_;intro bq hbq hbqf;try refine zU ?_)|(refine MS.nil ?_;intro nq hnq hltq;have hlq:=hltq _ _ (Hp.get_eq _ _ _);clear hltq;try refine zU ?_)|(refine LS.nilQ ?_;try with_reducible intro nq hnq;try refine zU ?_))
  refine RS.call rfl ((spec_l01Solve p a f _ _ hp ha hfr).mono ?_)
  rintro r H1 n2 hn2 ⟨m, I, S, v9, v10, v11, b9, b10, rfl, hsrc, hgs, hl9, hl10, g9, g10, hlow⟩
  obtain ⟨o9, c9, K9, rfl, gb9, ho9, hm9, hc9⟩ := hl9
  obtain ⟨o10, c10, K10, rfl, gb10, ho10, hm10, hc10⟩ := hl10
  have hmi := hsrc.mi
  have g7 : H1.get (n + 1) = some ⟨8, bys v, 25⟩ := by rw [hlow (n + 1) (by omega)]; exact zH
  have g8 : ∃ k8, H1.get (n + 2) = some k8 ∧ k8.size = 8 := ⟨_, by rw [hlow (n + 2) (by omega)]; exact zH, rfl⟩
  obtain ⟨k8, g8, s8⟩ := g8
  have hlow0 : ∀ x, x < n → H1.get x = H.get x := fun x hx => by rw [hlow x (by omega)]; simp (disch := omega) only [Hp.get_ne]
  (repeat first|refine zG ?_|(refine LS.nilO ?_;intro nq hnq hltq;try refine zU ?_)|(refine MS.new ?_;intro bq hbq hbqf;try refine zU ?_)|(refine MS.nil ?_;intro nq hnq hltq;have hlq:=hltq _ _ (Hp.get_eq _ _ _);clear hltq;try refine zU ?_)|(refine LS.nilQ ?_;try with_reducible intro nq hnq;try refine zU ?_))
  refine CS.iter m (fun k => [(14, i64 k), (13, ptr n2 0), (0, i64 p), (1, i64 a), (7, ptr (n + 1) 0), (8, ptr (n + 2) 0), (10, .s (.slc b9 o9 m c9)), (11, .s (.slc b10 o10 m c10))])
    (fun k => (n2, ⟨8, bys (rdw p I S v (fun _ => 0) 1 k), 25⟩) :: H1.set (n + 1) (bys (rdk p I v k))) (fun _ => True) (by (repeat first | exact trivial | refine And.intro rfl ?_)) (Drops.keepc rfl rfl (fun _ _ => rfl) (Drops.setself g7 (fun _ _ => rfl))) trivial ?_
  intro k n3 hk hn3 _
  (repeat first|refine zG ?_|(refine LS.nilO ?_;intro nq hnq hltq;try refine zU ?_)|(refine MS.new ?_;intro bq hbq hbqf;try refine zU ?_)|(refine MS.nil ?_;intro nq hnq hltq;have hlq:=hltq _ _ (Hp.get_eq _ _ _);clear hltq;try refine zU ?_)|(refine LS.nilQ ?_;try with_reducible intro nq hnq;try refine zU ?_))
  refine zI ?_ ?_<;>intro h3
  · have e9 : ∀ q, q < 8 → K9.c (o9 + k * 8 + q) = .int .u8 (I k q) := fun q hq => by rw [Nat.add_assoc]; exact hc9 k q (by omega) hq
    have e10 : ∀ q, q < 8 → K10.c (o10 + k * 8 + q) = .int .u8 (S k q) := fun q hq => by rw [Nat.add_assoc]; exact hc10 k q (by omega) hq
    have hIb : isBy 8 (I k) := isRes.by (hsrc.res k (by omega)) hb.2
    have hSb : isBy 8 (S k) := isRes.by (hsrc.sres k (by omega)) hb.2
    have hlt := hsrc.lt k (by omega)
    have hrk : isRes p 8 (rdk p I v k) := rdk_res hb.1 hv k
    have hrw : isRes p 8 (rdw p I S v (fun _ => 0) 1 k) := rdw_res hb.1 (fun _ _ => ⟨by (try dsimp only); omega, by (try dsimp only); omega⟩) k
    have hrt := hrk (fsn (I k) 8) hlt
    have hr1 : (bys (rdk p I v k)) (fsn (I k) 8) = .int .u8 (rdk p I v k (fsn (I k) 8)) := rfl
    have gb9' : (H1.set (n + 1) (bys (rdk p I v k))).get b9 = some K9 := by rw [Hp.get_set_other _ (by omega)]; exact gb9
    have gb10' : (H1.set (n + 1) (bys (rdk p I v k))).get b10 = some K10 := by rw [Hp.get_set_other _ (by omega)]; exact gb10
    have g7' : (H1.set (n + 1) (bys (rdk p I v k))).get (n + 1) = some ⟨8, bys (rdk p I v k), 25⟩ := Hp.get_set_self _ g7
    (repeat first|refine zG ?_|(refine LS.nilO ?_;intro nq hnq hltq;try refine zU ?_)|(refine MS.new ?_;intro bq hbq hbqf;try refine zU ?_)|(refine MS.nil ?_;intro nq hnq hltq;have hlq:=hltq _ _ (Hp.get_eq _ _ _);clear hltq;try refine zU ?_)|(refine LS.nilQ ?_;try with_reducible intro nq hnq;try refine zU ?_))
    refine RS.call rfl ((spec_l01First (I k) _ _).mono ?_)
    rintro r H' n4 hn4 ⟨rfl, rfl⟩
    (repeat first|refine zG ?_|(refine LS.nilO ?_;intro nq hnq hltq;try refine zU ?_)|(refine MS.new ?_;intro bq hbq hbqf;try refine zU ?_)|(refine MS.nil ?_;intro nq hnq hltq;have hlq:=hltq _ _ (Hp.get_eq _ _ _);clear hltq;try refine zU ?_)|(refine LS.nilQ ?_;try with_reducible intro nq hnq;try refine zU ?_))
    refine zI ?_ ?_<;>intro h4
    · (repeat first|refine zG ?_|(refine LS.nilO ?_;intro nq hnq hltq;try refine zU ?_)|(refine MS.new ?_;intro bq hbq hbqf;try refine zU ?_)|(refine MS.nil ?_;intro nq hnq hltq;have hlq:=hltq _ _ (Hp.get_eq _ _ _);clear hltq;try refine zU ?_)|(refine LS.nilQ ?_;try with_reducible intro nq hnq;try refine zU ?_))
      refine RS.neg64 (by exact rfl) (by omega) ?_
      (repeat first|refine zG ?_|(refine LS.nilO ?_;intro nq hnq hltq;try refine zU ?_)|(refine MS.new ?_;intro bq hbq hbqf;try refine zU ?_)|(refine MS.nil ?_;intro nq hnq hltq;have hlq:=hltq _ _ (Hp.get_eq _ _ _);clear hltq;try refine zU ?_)|(refine LS.nilQ ?_;try with_reducible intro nq hnq;try refine zU ?_))
      refine RS.call rfl ((spec_l01AddN p (-(rdk p I v k (fsn (I k) 8))) (rdk p I v k) (I k) _ _ hb (isRes.by hrk hb.2) hIb (by omega)).mono ?_)
      rintro r H' n5 hn5 ⟨rfl, rfl⟩
      (repeat first|refine zG ?_|(refine LS.nilO ?_;intro nq hnq hltq;try refine zU ?_)|(refine MS.new ?_;intro bq hbq hbqf;try refine zU ?_)|(refine MS.nil ?_;intro nq hnq hltq;have hlq:=hltq _ _ (Hp.get_eq _ _ _);clear hltq;try refine zU ?_)|(refine LS.nilQ ?_;try with_reducible intro nq hnq;try refine zU ?_))
      refine RS.call rfl ((spec_l01AddN p (rdk p I v k (fsn (I k) 8)) (rdw p I S v (fun _ => 0) 1 k) (S k) _ _ hb (isRes.by hrw hb.2) hSb (by omega)).mono ?_)
      rintro r H' n6 hn6 ⟨rfl, rfl⟩
      (repeat first|refine zG ?_|(refine LS.nilO ?_;intro nq hnq hltq;try refine zU ?_)|(refine MS.new ?_;intro bq hbq hbqf;try refine zU ?_)|(refine MS.nil ?_;intro nq hnq hltq;have hlq:=hltq _ _ (Hp.get_eq _ _ _);clear hltq;try refine zU ?_)|(refine LS.nilQ ?_;try with_reducible intro nq hnq;try refine zU ?_))
      exact ⟨by omega, by (repeat first | exact trivial | refine And.intro rfl ?_), Drops.keepc rfl rfl (fun q hq => by rw [rdw_succ, Int.one_mul]) (Drops.refl _ _), trivial⟩
    · (repeat first|refine zG ?_|(refine LS.nilO ?_;intro nq hnq hltq;try refine zU ?_)|(refine MS.new ?_;intro bq hbq hbqf;try refine zU ?_)|(refine MS.nil ?_;intro nq hnq hltq;have hlq:=hltq _ _ (Hp.get_eq _ _ _);clear hltq;try refine zU ?_)|(refine LS.nilQ ?_;try with_reducible intro nq hnq;try refine zU ?_))
      exact ⟨by omega, by (repeat first | exact trivial | refine And.intro rfl ?_), Drops.keepc rfl rfl (fun q hq => congrArg (SV.int .u8) (rdw_same hb.1 (fun _ _ => ⟨by (try dsimp only); omega, by (try dsimp only); omega⟩) h4 hq).symm) (Drops.setc g7 (fun q hq => congrArg (SV.int .u8) (rdk_same hb.1 hv h4 hq).symm)), trivial⟩
  · obtain rfl : k = m := by omega
    have g8' : (H1.set (n + 1) (bys (rdk p I v k))).get (n + 2) = some k8 := by rw [Hp.get_set_other _ (by omega)]; exact g8
    (repeat first|refine zG ?_|(refine LS.nilO ?_;intro nq hnq hltq;try refine zU ?_)|(refine MS.new ?_;intro bq hbq hbqf;try refine zU ?_)|(refine MS.nil ?_;intro nq hnq hltq;have hlq:=hltq _ _ (Hp.get_eq _ _ _);clear hltq;try refine zU ?_)|(refine LS.nilQ ?_;try with_reducible intro nq hnq;try refine zU ?_))
    refine LS.callQ (bl (tb (∀ q, q < 8 → rdk p I v k q = 0))) rfl (fun n' hn' => spec_l01Zero (rdk p I v k) _ _) ?_
    (repeat first|refine zG ?_|(refine LS.nilO ?_;intro nq hnq hltq;try refine zU ?_)|(refine MS.new ?_;intro bq hbq hbqf;try refine zU ?_)|(refine MS.nil ?_;intro nq hnq hltq;have hlq:=hltq _ _ (Hp.get_eq _ _ _);clear hltq;try refine zU ?_)|(refine LS.nilQ ?_;try with_reducible intro nq hnq;try refine zU ?_))
    exact ⟨.tup [.arr 8 (bys (rdw p I S v (fun _ => 0) 1 k)), bl (tb (∀ q, q < 8 → rdk p I v k q = 0))], H, conc_tup2 (conc_arr (fun q hq => by (try dsimp only); unfold splice; rw [if_pos (by omega)]; simp only [Nat.zero_add, Nat.sub_zero])) rfl,
      Drops.low hf (fun b hb => by simp (disch := omega) only [Hp.get_ne, Hp.get_set_other]; exact hlow0 b hb), by unfold lfw lfr; rw [hgs], rfl⟩

/-- spec.l01Code -/
def ir27 : Cd := (.seq (.reg [⟨some 2,none,.box 31 (.t 0)⟩,⟨some 4,none,.mov (.c (.int .i64 0))⟩]) (.seq (.seq (.reg [⟨some 6,none,.ld (some 522) (.t 2)⟩,⟨some 7,none,.call 58 [(.t 6)]⟩,⟨some 8,none,.un .not (.t 7)⟩]) (.cond (.t 8) (.seq (.reg [⟨some 4,none,.mov (.c (.int .i64 1))⟩]) .ret) .skip)) (.seq (.seq (.reg [⟨some 5,none,.mov (.c (.int .i64 0))⟩]) (.block 0 (.loop (.seq (.seq (.reg [⟨some 9,none,.mov (.t 5)⟩,⟨some 10,none,.mov (.t 1)⟩,⟨some 11,none,.len (.t 10)⟩,⟨some 12,none,.bin .lss (.t 9) (.t 11)⟩]) (.cond (.t 12) .skip (.exit 0))) (.seq (.block 1 (.seq (.drw true [8] [⟨some 15,none,.fa 0 (.t 2)⟩,⟨some 16,none,.ld none (.t 15)⟩,⟨some 17,none,.fa 1 (.t 2)⟩,⟨some 18,none,.ld none (.t 17)⟩,⟨some 19,none,.mov (.t 1)⟩,⟨some 20,none,.mov (.t 5)⟩,⟨some 21,none,.isl 8 (.t 19) (.t 20)⟩,⟨some 22,none,.ld (some 8) (.t 21)⟩,⟨some 23,none,.call 59 [(.t 16),(.t 18),(.t 22)]⟩,⟨some 24,none,.un .not (.t 23)⟩]) (.cond (.t 24) (.seq (.reg [⟨some 4,none,.mov (.c (.int .i64 1))⟩]) .ret) .skip))) (.reg [⟨some 13,none,.mov (.t 5)⟩,⟨some 14,none,.bin .add (.t 13) (.c (.int .i64 1))⟩,⟨some 5,none,.mov (.t 14)⟩])))))) (.seq (.reg [⟨some 4,none,.mov (.c (.int .i64 0))⟩]) .ret))))

set_option maxRecDepth 100000 in
theorem tr27 : trFn Tryz.prog Tryz.f27 = some (25, ir27, [.tmp 4]) := by kernel_rfl

theorem spec_l01Code (p n' : Int) (u m v : Nat → Int) (b : Nat) (Kb : Blk) (K : Nat → SV) (H : Hp) (n : Nat) (h0 : K 0 = .int .i64 p) (h1 : K 1 = .int .i64 n')
    (hU : ∀ q, q < 8 → K (2 + q) = .int .u8 (u q)) (hK : ∀ q, q < 512 → K (10 + q) = .int .u8 (m q)) (hu : isBy 8 u) (hm : isBy 512 m) (hv : isBy 8 v) (gb : H.get b = some Kb) (sb : 8 ≤ Kb.size) (cb : ∀ q, q < 8 → Kb.c q = .int .u8 (v q)) :
    FnS Tryz.prog 27 [.arr 522 K, .s (.slc b 0 1 1)] H n (fun r H' _ => r = i64 (cd (isAlg p n' u m ∧ isVec p n' v)) ∧ H' = H) := by
  refine FnS.of_body Tryz.func27 tr27 (by simp) (fun hf => ?_)
  dsimp only [argEnv]
  unfold ir27
  have hbn := getlt hf gb
  (repeat first|refine zG ?_|(refine LS.nilO ?_;intro nq hnq hltq;try refine zU ?_)|(refine MS.new ?_;intro bq hbq hbqf;try refine zU ?_)|(refine MS.nil ?_;intro nq hnq hltq;have hlq:=hltq _ _ (Hp.get_eq _ _ _);clear hltq;try refine zU ?_)|(refine LS.nilQ ?_;try with_reducible intro nq hnq;try refine zU ?_))
  refine RS.call rfl ((FnS.args (concs_cons (conc_arr (fun q hq => rfl)) rfl) (spec_l01Is p n' u m K _ _ h0 h1 hU hK hu hm)).mono ?_)
  rintro r H' n2 hn2 ⟨rfl, rfl⟩
  (repeat first|refine zG ?_|(refine LS.nilO ?_;intro nq hnq hltq;try refine zU ?_)|(refine MS.new ?_;intro bq hbq hbqf;try refine zU ?_)|(refine MS.nil ?_;intro nq hnq hltq;have hlq:=hltq _ _ (Hp.get_eq _ _ _);clear hltq;try refine zU ?_)|(refine LS.nilQ ?_;try with_reducible intro nq hnq;try refine zU ?_))
  refine zI ?_ ?_<;>intro h2
  · (repeat first|refine zG ?_|(refine LS.nilO ?_;intro nq hnq hltq;try refine zU ?_)|(refine MS.new ?_;intro bq hbq hbqf;try refine zU ?_)|(refine MS.nil ?_;intro nq hnq hltq;have hlq:=hltq _ _ (Hp.get_eq _ _ _);clear hltq;try refine zU ?_)|(refine LS.nilQ ?_;try with_reducible intro nq hnq;try refine zU ?_))
    exact ⟨i64 1, H, rfl, by exact zD, by rw [cd_false (fun q => h2 q.1)], rfl⟩
  · (repeat first|refine zG ?_|(refine LS.nilO ?_;intro nq hnq hltq;try refine zU ?_)|(refine MS.new ?_;intro bq hbq hbqf;try refine zU ?_)|(refine MS.nil ?_;intro nq hnq hltq;have hlq:=hltq _ _ (Hp.get_eq _ _ _);clear hltq;try refine zU ?_)|(refine LS.nilQ ?_;try with_reducible intro nq hnq;try refine zU ?_))
    refine CS.iter 1 (fun i => [(5, i64 i), (2, ptr n 0), (1, .s (.slc b 0 1 1))]) (fun _ => (n, ⟨522, K, 31⟩) :: H) (fun i => Fx (i = 1 → isVec p n' v)) (by (repeat first | exact trivial | refine And.intro rfl ?_)) (Drops.refl _ _) ⟨fun h => by omega⟩ ?_
    intro i n3 hi hn3 hJ
    (repeat first|refine zG ?_|(refine LS.nilO ?_;intro nq hnq hltq;try refine zU ?_)|(refine MS.new ?_;intro bq hbq hbqf;try refine zU ?_)|(refine MS.nil ?_;intro nq hnq hltq;have hlq:=hltq _ _ (Hp.get_eq _ _ _);clear hltq;try refine zU ?_)|(refine LS.nilQ ?_;try with_reducible intro nq hnq;try refine zU ?_))
    refine zI ?_ ?_<;>intro h4
    · obtain rfl : i = 0 := by omega
      have cb0 : ∀ q, q < 8 → Kb.c (0 + 0 * 8 + q) = .int .u8 (v q) := fun q hq => by rw [show 0 + 0 * 8 + q = q by omega]; exact cb q hq
      (repeat first|refine zG ?_|(refine LS.nilO ?_;intro nq hnq hltq;try refine zU ?_)|(refine MS.new ?_;intro bq hbq hbqf;try refine zU ?_)|(refine MS.nil ?_;intro nq hnq hltq;have hlq:=hltq _ _ (Hp.get_eq _ _ _);clear hltq;try refine zU ?_)|(refine LS.nilQ ?_;try with_reducible intro nq hnq;try refine zU ?_))
      refine RS.call rfl ((FnS.args (concs_cons rfl (concs_cons rfl (concs_cons (conc_arr (fun q hq => by (try dsimp only [bys]); rw [show 0 * 8 + q = q by omega])) rfl))) (spec_l01Vector p n' v _ _ hv)).mono ?_)
      rintro r H' n4 hn4 ⟨rfl, rfl⟩
      (repeat first|refine zG ?_|(refine LS.nilO ?_;intro nq hnq hltq;try refine zU ?_)|(refine MS.new ?_;intro bq hbq hbqf;try refine zU ?_)|(refine MS.nil ?_;intro nq hnq hltq;have hlq:=hltq _ _ (Hp.get_eq _ _ _);clear hltq;try refine zU ?_)|(refine LS.nilQ ?_;try with_reducible intro nq hnq;try refine zU ?_))
      refine zI ?_ ?_<;>intro h5
      · (repeat first|refine zG ?_|(refine LS.nilO ?_;intro nq hnq hltq;try refine zU ?_)|(refine MS.new ?_;intro bq hbq hbqf;try refine zU ?_)|(refine MS.nil ?_;intro nq hnq hltq;have hlq:=hltq _ _ (Hp.get_eq _ _ _);clear hltq;try refine zU ?_)|(refine LS.nilQ ?_;try with_reducible intro nq hnq;try refine zU ?_))
        exact ⟨i64 1, H, rfl, by exact zD, by rw [cd_false (fun q => h5 q.2)], rfl⟩
      · (repeat first|refine zG ?_|(refine LS.nilO ?_;intro nq hnq hltq;try refine zU ?_)|(refine MS.new ?_;intro bq hbq hbqf;try refine zU ?_)|(refine MS.nil ?_;intro nq hnq hltq;have hlq:=hltq _ _ (Hp.get_eq _ _ _);clear hltq;try refine zU ?_)|(refine LS.nilQ ?_;try with_reducible intro nq hnq;try refine zU ?_))
        exact ⟨by omega, by (repeat first | exact trivial | refine And.intro rfl ?_), Drops.refl _ _, ⟨fun _ => h5⟩⟩
    · obtain rfl : i = 1 := by omega
      (repeat first|refine zG ?_|(refine LS.nilO ?_;intro nq hnq hltq;try refine zU ?_)|(refine MS.new ?_;intro bq hbq hbqf;try refine zU ?_)|(refine MS.nil ?_;intro nq hnq hltq;have hlq:=hltq _ _ (Hp.get_eq _ _ _);clear hltq;try refine zU ?_)|(refine LS.nilQ ?_;try with_reducible intro nq hnq;try refine zU ?_))
      exact ⟨i64 0, H, rfl, by exact zD, by rw [cd_true ⟨h2, hJ.out rfl⟩], rfl⟩

end Go.Proofs.YtgnphaopeplfbaaGreatDoor
