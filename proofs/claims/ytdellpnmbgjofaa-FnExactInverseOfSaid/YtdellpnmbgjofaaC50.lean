/- The spec's reduction of the rows of a table, one by one. -/
import Derived.Test.YtdellpnmbgjofaaC49
namespace Go.V
set_option linter.unusedSimpArgs false
set_option linter.unusedVariables false
/-- A slice of m vectors, which lie in the block b. -/
def VL (H : Hp) (v : SV) (m : Nat) (I : Nat → Nat → Int) (b : Nat) : Prop :=
  ∃ o cap k, v = .slc b o m cap ∧ H.get b = some k ∧ o + cap * 8 ≤ k.size ∧ m ≤ cap ∧ ∀ i x, i < m → x < 8 → k.c (o + (i * 8 + x)) = .int .u8 (I i x)
theorem VL.keep {H H' : Hp} {v : SV} {m : Nat} {I : Nat → Nat → Int} {b : Nat} (h : VL H v m I b) (hg : H'.get b = H.get b) : VL H' v m I b := by
  obtain ⟨o, cap, k, h1, h2, h3⟩ := h
  exact ⟨o, cap, k, h1, hg.trans h2, h3⟩
theorem VL.slice {H : Hp} {v : SV} {m : Nat} {I : Nat → Nat → Int} {b : Nat} (h : VL H v m I b) : ∃ cap, sliceV H 8 v m cap (fun i => .int .u8 (I (i / 8) (i % 8))) := by
  obtain ⟨o, cap, k, h1, h2, h3, h4, h5⟩ := h
  refine ⟨cap, .inr ⟨b, o, k, h1, h2, h3, h4, fun i hi => ?_⟩⟩
  show _ = SV.int IntKind.u8 (I (i / 8) (i % 8))
  rw [← h5 (i / 8) (i % 8) (by omega) (by omega), show i / 8 * 8 + i % 8 = i by omega]
section
variable {P : Program} {N mm : Nat} {e : Env} {H : Hp} {n : Nat} {l : List Ins} {d : Option Nat} {K : Env → Hp → Nat → Prop}
/-- One more vector. -/
theorem RS.appV {t : TypeId} {x y : X} {v : SV} {m b b2 : Nat} {I : Nat → Nat → Int} {w : Nat → Int} {k2 : Blk} {z : Zs}
    (hx : x.ev e = some (.s v)) (hy : y.ev e = some (.s (.slc b2 0 1 1))) (hV : VL H v m I b) (hb2 : H.get b2 = some k2) (hs2 : k2.size = 8) (hc2 : ∀ q, q < 8 → k2.c q = .int .u8 (w q)) (hm : m ≤ 1000) (hf : H.get n = none) (hbn : b < n)
    (h : ∀ v' b' H' n', VL H' v' (m + 1) (snc I m w) b' → (b' = b ∨ b' = n) → b' < n' → n ≤ n' → n' ≤ n + 1 → (∀ x, x ≠ b' → H'.get x = H.get x) → LS P N mm (.seq K) l (putD d (.s v') e) H' n') :
    LS P N mm (.seq K) (⟨d, none, .app t 8 8 z x y⟩ :: l) e H n := by
  obtain ⟨o, cap, k, rfl, hk, ho, hmc, hc⟩ := hV
  refine RS.app (len2 := 1) (cap2 := 1) (c := fun i => .int .u8 (I (i / 8) (i % 8))) (c2 := fun i => .int .u8 (w i)) hx hy (.inr ⟨b, o, k, rfl, hk, ho, hmc, fun i hi => ?_⟩) (.inr ⟨b2, 0, k2, rfl, hb2, by omega, Nat.le_refl _, fun i hi => by rw [Nat.zero_add]; exact hc2 i (by omega)⟩) (by omega) (by omega) (fun hle => ⟨fun b' o' k' he hk' => ?_, fun he => by cases he⟩) (fun hlt cap' hcap => ?_)
  · show _ = SV.int IntKind.u8 (I (i / 8) (i % 8))
    rw [← hc (i / 8) (i % 8) (by omega) (by omega), show i / 8 * 8 + i % 8 = i by omega]
  · cases he
    rw [hk] at hk'
    cases hk'
    refine h _ b _ n ⟨o, cap, _, rfl, Hp.get_set_self _ hk, ho, hle, fun i x hi hx => ?_⟩ (.inl rfl) hbn (Nat.le_refl _) (by omega) (fun x hx => Hp.get_set_other _ (fun q => hx q.symm))
    (try dsimp only)
    unfold splice snc
    by_cases e1 : i = m
    · subst e1
      rw [if_pos (by omega), if_pos rfl]
      congr 2; omega
    · rw [if_neg (by omega), if_neg e1]
      exact hc i x (by omega) hx
  · refine h _ n _ (n + 1) ⟨0, cap', _, rfl, Hp.get_eq _ _ _, by (try dsimp only); omega, hcap, fun i x hi hx => ?_⟩ (.inr rfl) (by omega) (by omega) (by omega) (fun x hx => Hp.get_ne _ _ (fun q => hx q.symm))
    (try dsimp only)
    unfold joinC snc
    rw [Nat.zero_add]
    by_cases e1 : i = m
    · subst e1
      rw [if_pos (by omega), if_neg (by omega), if_pos rfl]
      congr 2; omega
    · rw [if_pos (by omega), if_pos (by omega), if_neg e1]
      show SV.int IntKind.u8 (I ((i * 8 + x) / 8) ((i * 8 + x) % 8)) = _
      rw [show (i * 8 + x) / 8 = i by omega, show (i * 8 + x) % 8 = x by omega]
end
/-- What the loop over the rows of f knows. -/
structure SolS (H0 : Hp) (n0 : Nat) (ty : TypeId) (p : Int) (f : Nat → Int) (n i m kk : Nat) (I S Kr : Nat → Nat → Int) (v9 v10 v11 : SV) (b9 b10 b11 : Nat) (H1 : Hp) (n1 : Nat) : Prop where
  src : SRC p f n I S m i
  gs : gsr p f i = (m, I, S)
  l9 : VL H1 v9 m I b9
  l10 : VL H1 v10 m S b10
  l11 : VL H1 v11 kk Kr b11
  kki : kk ≤ i
  d1 : b9 ≠ b10
  d2 : b9 ≠ b11
  d3 : b10 ≠ b11
  g9 : n0 < b9 ∧ b9 < n1
  g10 : n0 < b10 ∧ b10 < n1
  g11 : n0 < b11 ∧ b11 < n1
  g5 : H1.get n0 = some ⟨64, bys f, ty⟩
  low : ∀ x, x < n0 → H1.get x = H0.get x
  fresh : ∀ x, n1 ≤ x → H1.get x = none
end Go.V
namespace Go.Proofs.Ytdellpnmbgjofaa
open Go.V
set_option linter.unusedSimpArgs false
set_option linter.unusedVariables false
set_option maxHeartbeats 4000000

theorem spec_l01AddN (p k : Int) (v w : Nat → Int) (H : Hp) (n : Nat) (hp : 2 ≤ p ∧ p ≤ 31) (hv : isBy 8 v) (hw : isBy 8 w) (hk : -100000 ≤ k ∧ k ≤ 100000) :
    FnS Try.prog 25 [i64 p, .arr 8 (bys v), .arr 8 (bys w), i64 k] H n (fun r H' _ => r = .arr 8 (bys (pl p v k w)) ∧ H' = H) := by
  refine FnS.of_body Try.func25 tr25 (by simp) (fun hf => ?_)
  dsimp only [argEnv]
  unfold ir25
  (repeat first|refine zG ?_|(refine LS.nilO ?_;intro nq hnq hltq;try refine zU ?_)|(refine MS.new ?_;intro bq hbq hbqf;try refine zU ?_)|(refine MS.nil ?_;intro nq hnq hltq;have hlq:=hltq _ _ (Hp.get_eq _ _ _);clear hltq;try refine zU ?_)|(refine LS.nilQ ?_;try with_reducible intro nq hnq;try refine zU ?_))
  refine CS.iter 8 (fun i => [(9, i64 i), (8, ptr (n + 2) 0), (6, ptr (n + 1) 0), (5, ptr n 0), (0, i64 p), (3, i64 k)])
    (fun i => (n + 2, ⟨8, bys (fun _ => 0), 27⟩) :: (n + 1, ⟨8, bys w, 27⟩) :: (n, ⟨8, bys (prt (pl p v k w) v i), 27⟩) :: H) (fun _ => True) (by (repeat first | exact trivial | refine And.intro rfl ?_))
    (Drops.keepc rfl rfl (fun _ _ => rfl) (Drops.keepc rfl rfl (fun _ _ => rfl) (by rw [prt_zero]; exact Drops.refl _ _))) trivial ?_
  intro i n1 hi hn _
  (repeat first|refine zG ?_|(refine LS.nilO ?_;intro nq hnq hltq;try refine zU ?_)|(refine MS.new ?_;intro bq hbq hbqf;try refine zU ?_)|(refine MS.nil ?_;intro nq hnq hltq;have hlq:=hltq _ _ (Hp.get_eq _ _ _);clear hltq;try refine zU ?_)|(refine LS.nilQ ?_;try with_reducible intro nq hnq;try refine zU ?_))
  refine zI ?_ ?_<;>intro h1
  · have hpi := prt_at (pl p v k w) v i
    have hvi := hv i (by omega)
    have hwi := hw i (by omega)
    have hm : -25500000 ≤ k * w i ∧ k * w i ≤ 25500000 := by
      rcases Int.le_total 0 k with h0 | h0
      · have := mulB h0 hk.2 hwi.1 hwi.2; omega
      · have := mulB (show 0 ≤ -k by omega) (show -k ≤ 100000 by omega) hwi.1 hwi.2
        rw [Int.neg_mul] at this; omega
    have hb := modB (v i + k * w i) hp.1
    have hpl : (prt (pl p v k w) v i i + k * w i) % p = pl p v k w i := by rw [hpi]; rfl
    have hplb : 0 ≤ pl p v k w i ∧ pl p v k w i < p := hb
    (repeat first|refine zG ?_|(refine LS.nilO ?_;intro nq hnq hltq;try refine zU ?_)|(refine MS.new ?_;intro bq hbq hbqf;try refine zU ?_)|(refine MS.nil ?_;intro nq hnq hltq;have hlq:=hltq _ _ (Hp.get_eq _ _ _);clear hltq;try refine zU ?_)|(refine LS.nilQ ?_;try with_reducible intro nq hnq;try refine zU ?_))
    refine LS.callQ (u8 (pl p v k w i)) rfl (fun n' hn' => (spec_l01Mod p (prt (pl p v k w) v i i + k * w i) _ _ hp.1 hp.2 (by omega)).mono (fun r H' _ _ h => by rw [hpl] at h; exact h)) ?_
    (repeat first|refine zG ?_|(refine LS.nilO ?_;intro nq hnq hltq;try refine zU ?_)|(refine MS.new ?_;intro bq hbq hbqf;try refine zU ?_)|(refine MS.nil ?_;intro nq hnq hltq;have hlq:=hltq _ _ (Hp.get_eq _ _ _);clear hltq;try refine zU ?_)|(refine LS.nilQ ?_;try with_reducible intro nq hnq;try refine zU ?_))
    exact ⟨by omega, by (repeat first | exact trivial | refine And.intro rfl ?_), Drops.keepc rfl rfl (fun _ _ => rfl) (Drops.keepc rfl rfl (fun _ _ => rfl) (Drops.keepc rfl rfl (fun q hq => prt_put _ _ _ _) (Drops.refl _ _))), trivial⟩
  · have : i = 8 := by omega
    subst this
    (repeat first|refine zG ?_|(refine LS.nilO ?_;intro nq hnq hltq;try refine zU ?_)|(refine MS.new ?_;intro bq hbq hbqf;try refine zU ?_)|(refine MS.nil ?_;intro nq hnq hltq;have hlq:=hltq _ _ (Hp.get_eq _ _ _);clear hltq;try refine zU ?_)|(refine LS.nilQ ?_;try with_reducible intro nq hnq;try refine zU ?_))
    exact ⟨.arr 8 (bys (pl p v k w)), H, conc_arr (fun q hq => congrArg (SV.int .u8) (by simp only [Nat.zero_add]; exact prt_all _ _ _ _ hq)), by exact zD, rfl, rfl⟩

/-- spec.l01Solve -/
def ir23 : Cd := (.seq (.reg [⟨some 5,none,.box 31 (.t 2)⟩,⟨some 6,none,.mov (.c .nils)⟩,⟨some 7,none,.mov (.c .nils)⟩,⟨some 8,none,.mov (.c .nils)⟩]) (.seq (.reg [⟨some 19,none,.bsl 27 0 8 [(8,(.int .u8 0))] []⟩,⟨some 20,none,.bsl 27 0 8 [(8,(.int .u8 0))] []⟩,⟨some 21,none,.bsl 27 0 8 [(8,(.int .u8 0))] []⟩,⟨some 9,none,.mov (.t 19)⟩,⟨some 10,none,.mov (.t 20)⟩,⟨some 11,none,.mov (.t 21)⟩]) (.seq (.seq (.reg [⟨some 12,none,.mov (.c (.int .i64 0))⟩]) (.block 0 (.loop (.seq (.seq (.reg [⟨some 22,none,.mov (.t 12)⟩,⟨some 23,none,.mov (.t 1)⟩,⟨some 24,none,.bin .lss (.t 22) (.t 23)⟩]) (.cond (.t 24) .skip (.exit 0))) (.seq (.block 1 (.seq (.mixt [] [⟨some 27,none,.mov (.t 12)⟩,⟨some 28,none,.ia 8 8 (.t 5) (.t 27)⟩,⟨some 29,none,.ld (some 8) (.t 28)⟩,⟨some 30,none,.mov (.t 12)⟩,⟨some 31,none,.call 27 [(.t 30)]⟩] [⟨some 27,none,.mov (.t 12)⟩,⟨some 28,none,.ia 8 8 (.t 5) (.t 27)⟩,⟨some 29,none,.ld (some 8) (.t 28)⟩,⟨some 30,none,.mov (.t 12)⟩,⟨some 31,none,.call 27 [(.t 30)]⟩,⟨some 13,none,.new 27 [(8,(.int .u8 0))]⟩,⟨some 14,none,.new 27 [(8,(.int .u8 0))]⟩,⟨none,none,.st 8 (.t 13) (.t 29)⟩,⟨none,none,.st 8 (.t 14) (.t 31)⟩] (.fork (.seg 5 (.seg 6 (.seg 7 (.seg 8 .done)))) (.seg 6 (.seg 5 (.seg 7 (.seg 8 .done)))))) (.seq (.seq (.reg [⟨some 15,none,.mov (.c (.int .i64 0))⟩]) (.block 2 (.loop (.seq (.seq (.reg [⟨some 32,none,.mov (.t 15)⟩,⟨some 33,none,.mov (.t 9)⟩,⟨some 34,none,.len (.t 33)⟩,⟨some 35,none,.bin .lss (.t 32) (.t 34)⟩]) (.cond (.t 35) .skip (.exit 2))) (.seq (.block 3 (.seq (.reg [⟨some 38,none,.mov (.t 9)⟩,⟨some 39,none,.mov (.t 15)⟩,⟨some 40,none,.isl 8 (.t 38) (.t 39)⟩,⟨some 41,none,.ld (some 8) (.t 40)⟩,⟨some 42,none,.call 24 [(.t 41)]⟩,⟨some 16,none,.mov (.t 42)⟩]) (.seq (.reg [⟨some 43,none,.mov (.t 16)⟩,⟨some 44,none,.ia 8 1 (.t 13) (.t 43)⟩,⟨some 45,none,.ld none (.t 44)⟩,⟨some 46,none,.bin .neq (.t 45) (.c (.int .u8 0))⟩]) (.cond (.t 46) (.seq (.reg [⟨some 47,none,.mov (.t 16)⟩,⟨some 48,none,.ia 8 1 (.t 13) (.t 47)⟩,⟨some 49,none,.ld none (.t 48)⟩,⟨some 50,none,.cv .i64 (.t 49)⟩,⟨some 51,none,.un .neg (.t 50)⟩,⟨some 17,none,.mov (.t 51)⟩]) (.seq (.drw true [7,8] [⟨some 52,none,.mov (.t 0)⟩,⟨some 53,none,.ld (some 8) (.t 13)⟩,⟨some 54,none,.mov (.t 9)⟩,⟨some 55,none,.mov (.t 15)⟩,⟨some 56,none,.isl 8 (.t 54) (.t 55)⟩,⟨some 57,none,.ld (some 8) (.t 56)⟩,⟨some 58,none,.mov (.t 17)⟩,⟨some 59,none,.call 25 [(.t 52),(.t 53),(.t 57),(.t 58)]⟩,⟨none,none,.st 8 (.t 13) (.t 59)⟩]) (.drw true [7,8] [⟨some 60,none,.mov (.t 0)⟩,⟨some 61,none,.ld (some 8) (.t 14)⟩,⟨some 62,none,.mov (.t 10)⟩,⟨some 63,none,.mov (.t 15)⟩,⟨some 64,none,.isl 8 (.t 62) (.t 63)⟩,⟨some 65,none,.ld (some 8) (.t 64)⟩,⟨some 66,none,.mov (.t 17)⟩,⟨some 67,none,.call 25 [(.t 60),(.t 61),(.t 65),(.t 66)]⟩,⟨none,none,.st 8 (.t 14) (.t 67)⟩]))) .skip)))) (.reg [⟨some 36,none,.mov (.t 15)⟩,⟨some 37,none,.bin .add (.t 36) (.c (.int .i64 1))⟩,⟨some 15,none,.mov (.t 37)⟩])))))) (.seq (.seq (.reg [⟨some 68,none,.ld (some 8) (.t 13)⟩,⟨some 69,none,.call 26 [(.t 68)]⟩]) (.cond (.t 69) (.seq (.reg [⟨some 70,none,.mov (.t 11)⟩,⟨some 71,none,.ld (some 8) (.t 14)⟩,⟨some 72,none,.bsl 27 1 8 [(8,(.int .u8 0))] [(0,8,(.t 71))]⟩,⟨some 73,none,.app 27 8 8 [(8,(.int .u8 0))] (.t 70) (.t 72)⟩,⟨some 11,none,.mov (.t 73)⟩]) (.exit 1)) .skip)) (.seq (.reg [⟨some 74,none,.mov (.t 0)⟩,⟨some 75,none,.ld (some 8) (.t 13)⟩,⟨some 76,none,.call 24 [(.t 75)]⟩,⟨some 77,none,.ia 8 1 (.t 13) (.t 76)⟩,⟨some 78,none,.ld none (.t 77)⟩,⟨some 79,none,.call 43 [(.t 74),(.t 78)]⟩,⟨some 80,none,.cv .i64 (.t 79)⟩,⟨some 18,none,.mov (.t 80)⟩]) (.seq (.reg [⟨some 81,none,.mov (.t 9)⟩,⟨some 82,none,.mov (.t 0)⟩,⟨some 83,none,.build 8 [(8,(.int .u8 0))] []⟩,⟨some 84,none,.ld (some 8) (.t 13)⟩,⟨some 85,none,.mov (.t 18)⟩,⟨some 86,none,.call 25 [(.t 82),(.t 83),(.t 84),(.t 85)]⟩,⟨some 87,none,.bsl 27 1 8 [(8,(.int .u8 0))] [(0,8,(.t 86))]⟩,⟨some 88,none,.app 27 8 8 [(8,(.int .u8 0))] (.t 81) (.t 87)⟩,⟨some 9,none,.mov (.t 88)⟩]) (.reg [⟨some 89,none,.mov (.t 10)⟩,⟨some 90,none,.mov (.t 0)⟩,⟨some 91,none,.build 8 [(8,(.int .u8 0))] []⟩,⟨some 92,none,.ld (some 8) (.t 14)⟩,⟨some 93,none,.mov (.t 18)⟩,⟨some 94,none,.call 25 [(.t 90),(.t 91),(.t 92),(.t 93)]⟩,⟨some 95,none,.bsl 27 1 8 [(8,(.int .u8 0))] [(0,8,(.t 94))]⟩,⟨some 96,none,.app 27 8 8 [(8,(.int .u8 0))] (.t 89) (.t 95)⟩,⟨some 10,none,.mov (.t 96)⟩]))))))) (.reg [⟨some 25,none,.mov (.t 12)⟩,⟨some 26,none,.bin .add (.t 25) (.c (.int .i64 1))⟩,⟨some 12,none,.mov (.t 26)⟩])))))) (.seq (.reg [⟨some 97,none,.mov (.t 9)⟩,⟨some 98,none,.mov (.t 10)⟩,⟨some 99,none,.mov (.t 11)⟩,⟨some 6,none,.mov (.t 97)⟩,⟨some 7,none,.mov (.t 98)⟩,⟨some 8,none,.mov (.t 99)⟩]) .ret))))
set_option maxRecDepth 100000 in
theorem tr23 : trFn Try.prog Try.f23 = some (100, ir23, [.tmp 6, .tmp 7, .tmp 8]) := by kernel_rfl

theorem spec_l01Solve (p : Int) (a : Nat) (f : Nat → Int) (H : Hp) (n : Nat) (hp : isP p = true) (ha : a ≤ 8) (hfr : isRes p 64 f) :
    FnS Try.prog 23 [i64 p, i64 a, .arr 64 (bys f)] H n (fun r H' n' => ∃ m I S v9 v10 v11 b9 b10, r = .tup [.s v9, .s v10, .s v11] ∧ SRC p f a I S m a ∧ gsr p f a = (m, I, S) ∧ VL H' v9 m I b9 ∧ VL H' v10 m S b10 ∧ (n ≤ b9 ∧ b9 < n') ∧ (n ≤ b10 ∧ b10 < n') ∧ ∀ x, x < n → H'.get x = H.get x) := by
  have hb := isP_le hp
  have hfb : isBy 64 f := isRes.by hfr hb.2
  refine FnS.of_body Try.func23 tr23 (by simp) (fun hf => ?_)
  dsimp only [argEnv]
  unfold ir23
  (repeat first|refine zG ?_|(refine LS.nilO ?_;intro nq hnq hltq;try refine zU ?_)|(refine MS.new ?_;intro bq hbq hbqf;try refine zU ?_)|(refine MS.nil ?_;intro nq hnq hltq;have hlq:=hltq _ _ (Hp.get_eq _ _ _);clear hltq;try refine zU ?_)|(refine LS.nilQ ?_;try with_reducible intro nq hnq;try refine zU ?_))
  refine CS.weak (e1 := [(12, i64 ((0 : Nat) : Int)), (0, i64 p), (1, i64 a), (5, ptr n 0), (9, .s (.slc (n + 1) 0 0 0)), (10, .s (.slc (n + 2) 0 0 0)), (11, .s (.slc (n + 3) 0 0 0))]) (by (repeat first | exact trivial | refine And.intro rfl ?_)) (Drops.refl _ _) ?_
  refine CS.loop (fun k e H1 n1 => ∃ i m kk I S Kr v9 v10 v11 b9 b10 b11, i ≤ a ∧ k = a - i ∧ e = [(12, i64 (i : Nat)), (0, i64 p), (1, i64 a), (5, ptr n 0), (9, .s v9), (10, .s v10), (11, .s v11)] ∧ SolS H n 31 p f a i m kk I S Kr v9 v10 v11 b9 b10 b11 H1 n1) a ?_ ?_
  · refine ⟨0, 0, 0, fun _ _ => 0, fun _ _ => 0, fun _ _ => 0, _, _, _, n + 1, n + 2, n + 3, Nat.zero_le _, rfl, rfl, ?_⟩
    exact { src := SRC.zero f a _ _, gs := rfl, l9 := ⟨0, 0, _, rfl, by exact zH, by simp, Nat.le_refl _, fun i x hi => by omega⟩, l10 := ⟨0, 0, _, rfl, by exact zH, by simp, Nat.le_refl _, fun i x hi => by omega⟩, l11 := ⟨0, 0, _, rfl, by exact zH, by simp, Nat.le_refl _, fun i x hi => by omega⟩,
            kki := Nat.le_refl _, d1 := by omega, d2 := by omega, d3 := by omega, g9 := by omega, g10 := by omega, g11 := by omega, g5 := by exact zH, low := fun x hx => by simp (disch := omega) only [Hp.get_ne], fresh := fun x hx => by simp (disch := omega) only [Hp.get_ne]; exact hf x (by omega) }
  rintro k e H1 n1 hn1 ⟨i, m, kk, I, S, Kr, v9, v10, v11, b9, b10, b11, hi, rfl, rfl, hJ⟩
  obtain ⟨hsrc, hgs, hl9, hl10, hl11, hkki, d1, d2, d3, g9, g10, g11, g5, hlow, hfr1⟩ := hJ
  obtain ⟨o9, c9, K9, rfl, gb9, ho9, hm9, hc9⟩ := hl9
  obtain ⟨o10, c10, K10, rfl, gb10, ho10, hm10, hc10⟩ := hl10
  have hmi := hsrc.mi
  have g5n : n < n1 := by omega
  (repeat first|refine zG ?_|(refine LS.nilO ?_;intro nq hnq hltq;try refine zU ?_)|(refine MS.new ?_;intro bq hbq hbqf;try refine zU ?_)|(refine MS.nil ?_;intro nq hnq hltq;have hlq:=hltq _ _ (Hp.get_eq _ _ _);clear hltq;try refine zU ?_)|(refine LS.nilQ ?_;try with_reducible intro nq hnq;try refine zU ?_))
  refine zI ?_ ?_<;>intro h2
  · (repeat first|refine zG ?_|(refine LS.nilO ?_;intro nq hnq hltq;try refine zU ?_)|(refine MS.new ?_;intro bq hbq hbqf;try refine zU ?_)|(refine MS.nil ?_;intro nq hnq hltq;have hlq:=hltq _ _ (Hp.get_eq _ _ _);clear hltq;try refine zU ?_)|(refine LS.nilQ ?_;try with_reducible intro nq hnq;try refine zU ?_))
    refine CS.mixtL _ (fun _ _ h => h) ?_
    (repeat first|refine zG ?_|(refine LS.nilO ?_;intro nq hnq hltq;try refine zU ?_)|(refine MS.new ?_;intro bq hbq hbqf;try refine zU ?_)|(refine MS.nil ?_;intro nq hnq hltq;have hlq:=hltq _ _ (Hp.get_eq _ _ _);clear hltq;try refine zU ?_)|(refine LS.nilQ ?_;try with_reducible intro nq hnq;try refine zU ?_))
    refine LS.callQ (.arr 8 (bys (bas i))) rfl (fun n' hn' => spec_l01Basis i _ _ (by omega)) ?_
    (repeat first|refine zG ?_|(refine LS.nilO ?_;intro nq hnq hltq;try refine zU ?_)|(refine MS.new ?_;intro bq hbq hbqf;try refine zU ?_)|(refine MS.nil ?_;intro nq hnq hltq;have hlq:=hltq _ _ (Hp.get_eq _ _ _);clear hltq;try refine zU ?_)|(refine LS.nilQ ?_;try with_reducible intro nq hnq;try refine zU ?_))
    refine MTW.two (fun b13 b14 => [(13, ptr b13 0), (14, ptr b14 0), (12, i64 (i : Nat)), (0, i64 p), (1, i64 a), (5, ptr n 0), (9, .s (.slc b9 o9 m c9)), (10, .s (.slc b10 o10 m c10)), (11, .s v11)]) rfl rfl rfl rfl (by decide) (by decide) rfl rfl (fun b1 b2 => by (repeat first | exact trivial | refine And.intro rfl ?_)) (fun b1 b2 => by (repeat first | exact trivial | refine And.intro rfl ?_)) ?_
    intro b13 b14 n2 q13 q14 hne f13 f14 l13 l14 hn2
    have h2' : i < a := by omega
    have hbr : isRes p 8 (bas i) := fun x hx => by unfold bas; split <;> omega
    have hro : isRes p 8 (fun x => f (8 * i + x)) := fun x hx => hfr _ (by omega)
    (repeat first|refine zG ?_|(refine LS.nilO ?_;intro nq hnq hltq;try refine zU ?_)|(refine MS.new ?_;intro bq hbq hbqf;try refine zU ?_)|(refine MS.nil ?_;intro nq hnq hltq;have hlq:=hltq _ _ (Hp.get_eq _ _ _);clear hltq;try refine zU ?_)|(refine LS.nilQ ?_;try with_reducible intro nq hnq;try refine zU ?_))
    refine CS.iter m (fun k => [(15, i64 k), (13, ptr b13 0), (14, ptr b14 0), (12, i64 (i : Nat)), (0, i64 p), (1, i64 a), (5, ptr n 0), (9, .s (.slc b9 o9 m c9)), (10, .s (.slc b10 o10 m c10)), (11, .s v11)])
      (fun k => (b13, ⟨8, bys (rdk p I (fun x => f (8 * i + x)) k), 27⟩) :: (b14, ⟨8, bys (rdw p I S (fun x => f (8 * i + x)) (bas i) (-1) k), 27⟩) :: H1) (fun _ => True) (by (repeat first | exact trivial | refine And.intro rfl ?_)) (Drops.refl _ _) trivial ?_
    intro k n3 hk hn3 _
    (repeat first|refine zG ?_|(refine LS.nilO ?_;intro nq hnq hltq;try refine zU ?_)|(refine MS.new ?_;intro bq hbq hbqf;try refine zU ?_)|(refine MS.nil ?_;intro nq hnq hltq;have hlq:=hltq _ _ (Hp.get_eq _ _ _);clear hltq;try refine zU ?_)|(refine LS.nilQ ?_;try with_reducible intro nq hnq;try refine zU ?_))
    refine zI ?_ ?_<;>intro h3
    · have e9 : ∀ q, q < 8 → K9.c (o9 + k * 8 + q) = .int .u8 (I k q) := fun q hq => by rw [Nat.add_assoc]; exact hc9 k q (by omega) hq
      have e10 : ∀ q, q < 8 → K10.c (o10 + k * 8 + q) = .int .u8 (S k q) := fun q hq => by rw [Nat.add_assoc]; exact hc10 k q (by omega) hq
      have hIb : isBy 8 (I k) := isRes.by (hsrc.res k (by omega)) hb.2
      have hSb : isBy 8 (S k) := isRes.by (hsrc.sres k (by omega)) hb.2
      have hlt := hsrc.lt k (by omega)
      have hrk : isRes p 8 (rdk p I (fun x => f (8 * i + x)) k) := rdk_res hb.1 hro k
      have hrw : isRes p 8 (rdw p I S (fun x => f (8 * i + x)) (bas i) (-1) k) := rdw_res hb.1 hbr k
      have hrt := hrk (fsn (I k) 8) hlt
      have hr1 : (bys (rdk p I (fun x => f (8 * i + x)) k)) (fsn (I k) 8) = .int .u8 (rdk p I (fun x => f (8 * i + x)) k (fsn (I k) 8)) := rfl
      (repeat first|refine zG ?_|(refine LS.nilO ?_;intro nq hnq hltq;try refine zU ?_)|(refine MS.new ?_;intro bq hbq hbqf;try refine zU ?_)|(refine MS.nil ?_;intro nq hnq hltq;have hlq:=hltq _ _ (Hp.get_eq _ _ _);clear hltq;try refine zU ?_)|(refine LS.nilQ ?_;try with_reducible intro nq hnq;try refine zU ?_))
      refine RS.call rfl ((spec_l01First (I k) _ _).mono ?_)
      rintro r H' n4 hn4 ⟨rfl, rfl⟩
      (repeat first|refine zG ?_|(refine LS.nilO ?_;intro nq hnq hltq;try refine zU ?_)|(refine MS.new ?_;intro bq hbq hbqf;try refine zU ?_)|(refine MS.nil ?_;intro nq hnq hltq;have hlq:=hltq _ _ (Hp.get_eq _ _ _);clear hltq;try refine zU ?_)|(refine LS.nilQ ?_;try with_reducible intro nq hnq;try refine zU ?_))
      refine zI ?_ ?_<;>intro h4
      · (repeat first|refine zG ?_|(refine LS.nilO ?_;intro nq hnq hltq;try refine zU ?_)|(refine MS.new ?_;intro bq hbq hbqf;try refine zU ?_)|(refine MS.nil ?_;intro nq hnq hltq;have hlq:=hltq _ _ (Hp.get_eq _ _ _);clear hltq;try refine zU ?_)|(refine LS.nilQ ?_;try with_reducible intro nq hnq;try refine zU ?_))
        refine RS.neg64 (by exact rfl) (by omega) ?_
        (repeat first|refine zG ?_|(refine LS.nilO ?_;intro nq hnq hltq;try refine zU ?_)|(refine MS.new ?_;intro bq hbq hbqf;try refine zU ?_)|(refine MS.nil ?_;intro nq hnq hltq;have hlq:=hltq _ _ (Hp.get_eq _ _ _);clear hltq;try refine zU ?_)|(refine LS.nilQ ?_;try with_reducible intro nq hnq;try refine zU ?_))
        refine RS.call rfl ((spec_l01AddN p (-(rdk p I (fun x => f (8 * i + x)) k (fsn (I k) 8))) (rdk p I (fun x => f (8 * i + x)) k) (I k) _ _ hb (isRes.by hrk hb.2) hIb (by omega)).mono ?_)
        rintro r H' n5 hn5 ⟨rfl, rfl⟩
        (repeat first|refine zG ?_|(refine LS.nilO ?_;intro nq hnq hltq;try refine zU ?_)|(refine MS.new ?_;intro bq hbq hbqf;try refine zU ?_)|(refine MS.nil ?_;intro nq hnq hltq;have hlq:=hltq _ _ (Hp.get_eq _ _ _);clear hltq;try refine zU ?_)|(refine LS.nilQ ?_;try with_reducible intro nq hnq;try refine zU ?_))
        refine RS.call rfl ((spec_l01AddN p (-(rdk p I (fun x => f (8 * i + x)) k (fsn (I k) 8))) (rdw p I S (fun x => f (8 * i + x)) (bas i) (-1) k) (S k) _ _ hb (isRes.by hrw hb.2) hSb (by omega)).mono ?_)
        rintro r H' n6 hn6 ⟨rfl, rfl⟩
        (repeat first|refine zG ?_|(refine LS.nilO ?_;intro nq hnq hltq;try refine zU ?_)|(refine MS.new ?_;intro bq hbq hbqf;try refine zU ?_)|(refine MS.nil ?_;intro nq hnq hltq;have hlq:=hltq _ _ (Hp.get_eq _ _ _);clear hltq;try refine zU ?_)|(refine LS.nilQ ?_;try with_reducible intro nq hnq;try refine zU ?_))
        exact ⟨by omega, by (repeat first | exact trivial | refine And.intro rfl ?_), Drops.keepc rfl rfl (fun _ _ => rfl) (Drops.keepc rfl rfl (fun q hq => by rw [rdw_succ, Int.neg_one_mul]) (Drops.refl _ _)), trivial⟩
      · (repeat first|refine zG ?_|(refine LS.nilO ?_;intro nq hnq hltq;try refine zU ?_)|(refine MS.new ?_;intro bq hbq hbqf;try refine zU ?_)|(refine MS.nil ?_;intro nq hnq hltq;have hlq:=hltq _ _ (Hp.get_eq _ _ _);clear hltq;try refine zU ?_)|(refine LS.nilQ ?_;try with_reducible intro nq hnq;try refine zU ?_))
        exact ⟨by omega, by (repeat first | exact trivial | refine And.intro rfl ?_), Drops.keepc rfl rfl (fun q hq => congrArg (SV.int .u8) (rdk_same hb.1 hro h4 hq).symm) (Drops.keepc rfl rfl (fun q hq => congrArg (SV.int .u8) (rdw_same hb.1 hbr h4 hq).symm) (Drops.refl _ _)), trivial⟩
    · obtain rfl : k = m := by omega
      have hrk : isRes p 8 (rdk p I (fun x => f (8 * i + x)) k) := rdk_res hb.1 hro k
      have hrw : isRes p 8 (rdw p I S (fun x => f (8 * i + x)) (bas i) (-1) k) := rdw_res hb.1 hbr k
      obtain ⟨U, hU⟩ : ∃ U, U = rdk p I (fun x => f (8 * i + x)) k := ⟨_, rfl⟩
      obtain ⟨W, hW⟩ : ∃ W, W = rdw p I S (fun x => f (8 * i + x)) (bas i) (-1) k := ⟨_, rfl⟩
      rw [← hU] at hrk
      rw [← hW] at hrw
      rw [← hU, ← hW]
      (repeat first|refine zG ?_|(refine LS.nilO ?_;intro nq hnq hltq;try refine zU ?_)|(refine MS.new ?_;intro bq hbq hbqf;try refine zU ?_)|(refine MS.nil ?_;intro nq hnq hltq;have hlq:=hltq _ _ (Hp.get_eq _ _ _);clear hltq;try refine zU ?_)|(refine LS.nilQ ?_;try with_reducible intro nq hnq;try refine zU ?_))
      refine RS.call rfl ((spec_l01Zero U _ _).mono ?_)
      rintro r H' n4 hn4 ⟨rfl, rfl⟩
      (repeat first|refine zG ?_|(refine LS.nilO ?_;intro nq hnq hltq;try refine zU ?_)|(refine MS.new ?_;intro bq hbq hbqf;try refine zU ?_)|(refine MS.nil ?_;intro nq hnq hltq;have hlq:=hltq _ _ (Hp.get_eq _ _ _);clear hltq;try refine zU ?_)|(refine LS.nilQ ?_;try with_reducible intro nq hnq;try refine zU ?_))
      refine zI ?_ ?_<;>intro h5
      · (repeat first|refine zG ?_|(refine LS.nilO ?_;intro nq hnq hltq;try refine zU ?_)|(refine MS.new ?_;intro bq hbq hbqf;try refine zU ?_)|(refine MS.nil ?_;intro nq hnq hltq;have hlq:=hltq _ _ (Hp.get_eq _ _ _);clear hltq;try refine zU ?_)|(refine LS.nilQ ?_;try with_reducible intro nq hnq;try refine zU ?_))
        refine RS.appV (w := W) (by exact rfl) (by exact rfl) (hl11.keep (by simp (disch := omega) only [Hp.get_ne])) (by exact zH) rfl (fun q hq => ?_) (by omega) (by simp (disch := omega) only [Hp.get_ne]; exact hfr1 _ (by omega)) (by omega) ?_
        · (try dsimp only)
          unfold splice; rw [if_pos (by omega), Nat.sub_zero]; rfl
        intro v' b' H' n5 hV hb' hlt' hn5 hn5' hg'
        (repeat first|refine zG ?_|(refine LS.nilO ?_;intro nq hnq hltq;try refine zU ?_)|(refine MS.new ?_;intro bq hbq hbqf;try refine zU ?_)|(refine MS.nil ?_;intro nq hnq hltq;have hlq:=hltq _ _ (Hp.get_eq _ _ _);clear hltq;try refine zU ?_)|(refine LS.nilQ ?_;try with_reducible intro nq hnq;try refine zU ?_))
        refine ⟨a - (i + 1), [(12, i64 ((i + 1 : Nat) : Int)), (0, i64 p), (1, i64 a), (5, ptr n 0), (9, .s (.slc b9 o9 k c9)), (10, .s (.slc b10 o10 k c10)), (11, .s v')], H', by omega, by (repeat first | exact trivial | refine And.intro rfl ?_), Drops.refl _ _, i + 1, k, kk + 1, I, S, snc Kr kk W, _, _, _, b9, b10, b', by omega, rfl, rfl, ?_⟩
        have e9 : H'.get b9 = H1.get b9 := by rw [hg' b9 (by omega)]; simp (disch := omega) only [Hp.get_ne]
        have e10 : H'.get b10 = H1.get b10 := by rw [hg' b10 (by omega)]; simp (disch := omega) only [Hp.get_ne]
        exact { src := hsrc.ker (fun x hx => by rw [← hU]; exact h5 x hx), gs := gsr_ker hgs (fun x hx => by rw [← hU]; exact h5 x hx), l9 := ⟨o9, c9, K9, rfl, e9.trans gb9, ho9, hm9, hc9⟩, l10 := ⟨o10, c10, K10, rfl, e10.trans gb10, ho10, hm10, hc10⟩, l11 := hV, kki := by omega, d1 := d1, d2 := by omega, d3 := by omega, g9 := by omega, g10 := by omega, g11 := by omega,
                g5 := by rw [hg' n (by omega)]; simp (disch := omega) only [Hp.get_ne]; exact g5
                low := fun x hx => by rw [hg' x (by omega)]; simp (disch := omega) only [Hp.get_ne]; exact hlow x hx
                fresh := fun x hx => by rw [hg' x (by omega)]; simp (disch := omega) only [Hp.get_ne]; exact hfr1 x (by omega) }
      · have hz0 : fsn U 8 < 8 := by
          rcases Nat.lt_or_ge (fsn U 8) 8 with h | h
          · exact h
          · exact absurd (fun q hq => fsn_low U 8 q (by omega)) h5
        have hu1 : (bys U) (fsn U 8) = .int .u8 (U (fsn U 8)) := rfl
        have hub := hrk (fsn U 8) hz0
        have hne0 : U (fsn U 8) % p ≠ 0 := by rw [modSelf hub]; exact fsn_hit U 8 hz0
        have hinv := inv_spec hp hne0
        (repeat first|refine zG ?_|(refine LS.nilO ?_;intro nq hnq hltq;try refine zU ?_)|(refine MS.new ?_;intro bq hbq hbqf;try refine zU ?_)|(refine MS.nil ?_;intro nq hnq hltq;have hlq:=hltq _ _ (Hp.get_eq _ _ _);clear hltq;try refine zU ?_)|(refine LS.nilQ ?_;try with_reducible intro nq hnq;try refine zU ?_))
        refine RS.call rfl ((spec_l01First U _ _).mono ?_)
        rintro r H' n5 hn5 ⟨rfl, rfl⟩
        (repeat first|refine zG ?_|(refine LS.nilO ?_;intro nq hnq hltq;try refine zU ?_)|(refine MS.new ?_;intro bq hbq hbqf;try refine zU ?_)|(refine MS.nil ?_;intro nq hnq hltq;have hlq:=hltq _ _ (Hp.get_eq _ _ _);clear hltq;try refine zU ?_)|(refine LS.nilQ ?_;try with_reducible intro nq hnq;try refine zU ?_))
        refine RS.call rfl ((spec_l01Inverse p (U (fsn U 8)) _ _ hp (by omega) hne0).mono ?_)
        rintro r H' n6 hn6 ⟨rfl, rfl⟩
        (repeat first|refine zG ?_|(refine LS.nilO ?_;intro nq hnq hltq;try refine zU ?_)|(refine MS.new ?_;intro bq hbq hbqf;try refine zU ?_)|(refine MS.nil ?_;intro nq hnq hltq;have hlq:=hltq _ _ (Hp.get_eq _ _ _);clear hltq;try refine zU ?_)|(refine LS.nilQ ?_;try with_reducible intro nq hnq;try refine zU ?_))
        refine RS.call rfl ((FnS.args (concs_cons rfl (concs_cons (conc_arr (fun q hq => rfl)) rfl)) (spec_l01AddN p (inv p (U (fsn U 8))) (fun _ => 0) U _ _ hb (fun _ _ => ⟨by (try dsimp only); omega, by (try dsimp only); omega⟩) (isRes.by hrk hb.2) (by omega))).mono ?_)
        rintro r H' n7 hn7 ⟨rfl, rfl⟩
        (repeat first|refine zG ?_|(refine LS.nilO ?_;intro nq hnq hltq;try refine zU ?_)|(refine MS.new ?_;intro bq hbq hbqf;try refine zU ?_)|(refine MS.nil ?_;intro nq hnq hltq;have hlq:=hltq _ _ (Hp.get_eq _ _ _);clear hltq;try refine zU ?_)|(refine LS.nilQ ?_;try with_reducible intro nq hnq;try refine zU ?_))
        refine RS.appV (w := pl p (fun _ => 0) (inv p (U (fsn U 8))) U) (by exact rfl) (by exact rfl) (VL.keep (H := H1) ⟨o9, c9, K9, rfl, gb9, ho9, hm9, hc9⟩ (by simp (disch := omega) only [Hp.get_ne])) (by exact zH) rfl (fun q hq => ?_) (by omega) (by simp (disch := omega) only [Hp.get_ne]; exact hfr1 _ (by omega)) (by omega) ?_
        · (try dsimp only)
          unfold splice; rw [if_pos (by omega), Nat.sub_zero]; rfl
        intro w9 x9 H2 n8 hV9 hx9 hl8 hn8 hn8' hg9
        have g14 : H2.get b14 = some ⟨8, bys W, 27⟩ := by rw [hg9 b14 (by omega)]; simp (disch := omega) only [Hp.get_ne, Hp.get_eq]
        (repeat first|refine zG ?_|(refine LS.nilO ?_;intro nq hnq hltq;try refine zU ?_)|(refine MS.new ?_;intro bq hbq hbqf;try refine zU ?_)|(refine MS.nil ?_;intro nq hnq hltq;have hlq:=hltq _ _ (Hp.get_eq _ _ _);clear hltq;try refine zU ?_)|(refine LS.nilQ ?_;try with_reducible intro nq hnq;try refine zU ?_))
        refine RS.call rfl ((FnS.args (concs_cons rfl (concs_cons (conc_arr (fun q hq => rfl)) rfl)) (spec_l01AddN p (inv p (U (fsn U 8))) (fun _ => 0) W _ _ hb (fun _ _ => ⟨by (try dsimp only); omega, by (try dsimp only); omega⟩) (isRes.by hrw hb.2) (by omega))).mono ?_)
        rintro r H2 n9 hn9 ⟨rfl, rfl⟩
        (repeat first|refine zG ?_|(refine LS.nilO ?_;intro nq hnq hltq;try refine zU ?_)|(refine MS.new ?_;intro bq hbq hbqf;try refine zU ?_)|(refine MS.nil ?_;intro nq hnq hltq;have hlq:=hltq _ _ (Hp.get_eq _ _ _);clear hltq;try refine zU ?_)|(refine LS.nilQ ?_;try with_reducible intro nq hnq;try refine zU ?_))
        have hf2 : ∀ x, n8 ≤ x → H2.get x = none := fun x hx => by rw [hg9 x (by omega)]; simp (disch := omega) only [Hp.get_ne]; exact hfr1 x (by omega)
        have e10 : H2.get b10 = H1.get b10 := by rw [hg9 b10 (by omega)]; simp (disch := omega) only [Hp.get_ne]
        refine RS.appV (w := pl p (fun _ => 0) (inv p (U (fsn U 8))) W) (by exact rfl) (by exact rfl) (VL.keep (H := H1) ⟨o10, c10, K10, rfl, gb10, ho10, hm10, hc10⟩ (by simp (disch := omega) only [Hp.get_ne]; exact e10)) (by exact zH) rfl (fun q hq => ?_) (by omega) (by simp (disch := omega) only [Hp.get_ne]; exact hf2 _ (by omega)) (by omega) ?_
        · (try dsimp only)
          unfold splice; rw [if_pos (by omega), Nat.sub_zero]; rfl
        intro w10 x10 H3 n10 hV10 hx10 hl10 hn10 hn10' hg10
        (repeat first|refine zG ?_|(refine LS.nilO ?_;intro nq hnq hltq;try refine zU ?_)|(refine MS.new ?_;intro bq hbq hbqf;try refine zU ?_)|(refine MS.nil ?_;intro nq hnq hltq;have hlq:=hltq _ _ (Hp.get_eq _ _ _);clear hltq;try refine zU ?_)|(refine LS.nilQ ?_;try with_reducible intro nq hnq;try refine zU ?_))
        have hlow2 : ∀ x, x ≠ x10 → x ≠ n9 → H3.get x = H2.get x := fun x q1 q2 => by rw [hg10 x q1]; simp (disch := omega) only [Hp.get_ne]
        have hlow1 : ∀ x, x ≠ x9 → x < n1 → H2.get x = H1.get x := fun x q1 q2 => by rw [hg9 x q1]; simp (disch := omega) only [Hp.get_ne]
        refine ⟨a - (i + 1), [(12, i64 ((i + 1 : Nat) : Int)), (0, i64 p), (1, i64 a), (5, ptr n 0), (9, .s w9), (10, .s w10), (11, .s v11)], H3, by omega, by (repeat first | exact trivial | refine And.intro rfl ?_), Drops.refl _ _, i + 1, k + 1, kk, snc I k (pl p (fun _ => 0) (inv p (U (fsn U 8))) U), snc S k (pl p (fun _ => 0) (inv p (U (fsn U 8))) W), Kr, _, _, _, x9, x10, b11, by omega, rfl, rfl, ?_⟩
        refine { src := hsrc.img hp h2' ha hfr U W hU hW hz0, gs := gsr_img hgs hU hW hz0, l9 := hV9.keep (hlow2 x9 (by omega) (by omega)), l10 := hV10, l11 := hl11.keep ((hlow2 b11 (by omega) (by omega)).trans (hlow1 b11 (by omega) (by omega))), kki := by omega, d1 := by omega, d2 := by omega, d3 := by omega, g9 := by omega, g10 := by omega, g11 := by omega, g5 := ?_, low := fun x hx => ?_, fresh := fun x hx => ?_ }
        · exact (hlow2 n (by omega) (by omega)).trans ((hlow1 n (by omega) (by omega)).trans g5)
        · exact (hlow2 x (by omega) (by omega)).trans ((hlow1 x (by omega) (by omega)).trans (hlow x hx))
        · exact (hlow2 x (by omega) (by omega)).trans (hf2 x (by omega))
  · obtain rfl : i = a := by omega
    (repeat first|refine zG ?_|(refine LS.nilO ?_;intro nq hnq hltq;try refine zU ?_)|(refine MS.new ?_;intro bq hbq hbqf;try refine zU ?_)|(refine MS.nil ?_;intro nq hnq hltq;have hlq:=hltq _ _ (Hp.get_eq _ _ _);clear hltq;try refine zU ?_)|(refine LS.nilQ ?_;try with_reducible intro nq hnq;try refine zU ?_))
    exact ⟨.tup [.s (.slc b9 o9 m c9), .s (.slc b10 o10 m c10), .s v11], H1, rfl, Drops.refl _ _, m, I, S, _, _, _, b9, b10, rfl, hsrc, hgs, ⟨o9, c9, K9, rfl, gb9, ho9, hm9, hc9⟩, ⟨o10, c10, K10, rfl, gb10, ho10, hm10, hc10⟩, by omega, by omega, hlow⟩

end Go.Proofs.Ytdellpnmbgjofaa
