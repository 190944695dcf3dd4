/- Rests of vectors by a reduced list, on the program's side; lists within a space; what a module leads a list to. -/
import Derived.Test.YtkmfdhicjaccaaaGreatJbn
import Derived.Test.YtkmfdhicjaccaaaGreatJal
set_option linter.unusedSectionVars false
set_option linter.unusedVariables false
set_option linter.unusedSimpArgs false

namespace Go.V

variable [BW]

set_option linter.unusedSimpArgs false

set_option linter.unusedVariables false

theorem mulN {k w : Int} (hk : -100000 ≤ k ∧ k ≤ 100000) (hw : 0 ≤ w ∧ w ≤ 255) : -25500000 ≤ k * w ∧ k * w ≤ 25500000 := by
  have h1 := Int.mul_le_mul_of_nonneg_right hk.2 hw.1
  have h2 := Int.mul_le_mul_of_nonneg_right hk.1 hw.1
  omega

theorem VL.lst {H : Hp} {v : SV} {m : Nat} {I : Nat → Nat → Int} {b : Nat} (h : VL H v m I b) : lst H v m (fun q => I (q / 8) (q % 8)) := by
  obtain ⟨o, cap, k, rfl, g, ho, hm, hc⟩ := h
  refine .inr ⟨b, o, cap, k, rfl, g, by omega, fun q hq => ?_⟩
  have := hc (q / 8) (q % 8) (by omega) (by omega)
  rwa [show q / 8 * 8 + q % 8 = q by omega] at this

theorem VL.row (I : Nat → Nat → Int) (i q : Nat) (hq : q < 8) : I ((i * 8 + q) / 8) ((i * 8 + q) % 8) = I i q := by
  rw [show (i * 8 + q) / 8 = i by omega, show (i * 8 + q) % 8 = q by omega]

/-- A vector lies in the space of a reduced list. -/
def isIn (p : Int) (A : Nat → Nat → Int) (m : Nat) (v : Nat → Int) : Prop := ∀ x, x < 8 → rdk p A v m x = 0

/-- The images of a list of m vectors under maps. -/
def ldl (p : Int) (t : Nat → Int) (A : Nat → Nat → Int) (m : Nat) : Nat → Nat → Int := fun q => app p (fun y => t (64 * (q / m) + y)) (A (q % m))

section

variable {P : Program} {N mm : Nat} {e : Env} {H F : Hp} {n : Nat} {d : Option Nat} {K : Env → Hp → Prop}

theorem ST.ia {x i : X} {len sz b o j : Nat} {k : IntKind} (hx : x.ev e = some (.s (.ptr b o))) (hi : i.ev e = some (.s (.int k (j : Nat)))) (hj : j < len) (h : K (putD d (.s (.ptr b (o + sz * j))) e) H) : ST P N mm ⟨d, none, .ia len sz x i⟩ e H F n K :=
  ST.pure (by simp only [PV, hx, hi]; exact ⟨⟨by omega, by omega⟩, by rw [Int.toNat_natCast, Nat.mul_comm]; exact h⟩)

theorem ST.ldn {x : X} {z b off : Nat} {k : Blk} {c : Nat → SV} (hx : x.ev e = some (.s (.ptr b off))) (hb : F.get b = some k) (ho : off + z ≤ k.size) (hc : (fun j => k.c (off + j)) = c) (h : K (putD d (.arr z c) e) H) : ST P N mm ⟨d, none, .ld (some z) x⟩ e H F n K :=
  ST.pure (by simp only [PV, hx, hb, ldV]; exact ⟨ho, by rw [hc]; exact h⟩)

/-- A call that leaves the memory. -/
theorem ST.callq {f : FuncId} {args : List X} {vs : List AV} (v : AV) (hE : Ext F H) (hv : evs e args = some vs) (hf : ∀ n', n ≤ n' → (∀ x, n' ≤ x → H.get x = none) → FnS P f vs H n' fun r H' _ => r = v ∧ H' = H) (h : K (putD d v e) H) : ST P N mm ⟨d, none, .call f args⟩ e H F n K :=
  ST.call (R := fun r H' => r = v ∧ H' = H) hv (fun n' h1 h2 => (hf n' h1 h2).mono fun r H' _ _ q => ⟨q, by rw [q.2]; exact hE⟩) (by rintro r H' ⟨rfl, rfl⟩ _; exact h)

/-- One more vector in a list. -/
theorem ST.appV {t : TypeId} {x y : X} {v : SV} {m b b2 : Nat} {I : Nat → Nat → Int} {w : Nat → Int} {k2 : Blk} {z : Zs} (hE : Ext F H)
    (hx : x.ev e = some (.s v)) (hy : y.ev e = some (.s (.slc b2 0 1 1))) (hV : VL H v m I b) (hb2 : H.get b2 = some k2) (hs2 : k2.size = 8) (hc2 : ∀ q, q < 8 → k2.c q = .int .u8 (w q)) (hm : m ≤ 4000000) (hF : F.get b = none)
    (h : ∀ v' b' H', VL H' v' (m + 1) (snc I m w) b' → (b' = b ∨ n ≤ b' ∧ H.get b' = none) → (∀ x, x ≠ b' → H'.get x = H.get x) → Ext F H' → K (putD d (.s v') e) H') : ST P N mm ⟨d, none, .app t 8 8 z x y⟩ e H F n K := by
  refine ST.run rfl ?_
  intro n' q1 hfr o h1 w0 w1 a q3 hag
  obtain ⟨o1, cap, k1, rfl, hk1, ho, hmc, hc⟩ := hV
  refine run_app (K := fun e' H' _ => Ext F H' ∧ K e' H') (len2 := 1) (cap2 := 1) (c := fun i => .int .u8 (I (i / 8) (i % 8))) (c2 := fun i => .int .u8 (w i)) hx hy (.inr ⟨b, o1, k1, rfl, hk1, ho, hmc, fun i hi => ?_⟩) (.inr ⟨b2, 0, k2, rfl, hb2, by omega, Nat.le_refl _, fun i hi => by rw [Nat.zero_add]; exact hc2 i (by omega)⟩) (by omega) (by omega) (fun hle => ⟨fun b' o' k' hee hk' => ?_, fun hee => by cases hee⟩) (fun hlt cap' hcap => ?_) o h1 w0 w1 a q3 hag
  · show _ = SV.int IntKind.u8 (I (i / 8) (i % 8))
    rw [← hc (i / 8) (i % 8) (by omega) (by omega), show i / 8 * 8 + i % 8 = i by omega]
  · cases hee
    rw [hk1] at hk'
    cases hk'
    refine ⟨hE.setF _ hF, h _ b _ ⟨o1, cap, _, rfl, Hp.get_set_self _ hk1, ho, hle, fun i x hi hx => ?_⟩ (.inl rfl) (fun x hx => Hp.get_set_other _ (fun q => hx q.symm)) (hE.setF _ hF)⟩
    (try dsimp only)
    unfold splice snc
    by_cases e1 : i = m
    · subst e1
      rw [if_pos (by omega), if_pos rfl]
      congr 2; omega
    · rw [if_neg (by omega), if_neg e1]
      exact hc i x (by omega) hx
  · have hE2 : ∀ blk, Ext F ((n', blk) :: H) := fun blk b' k' hb' => by
      have hne : n' ≠ b' := by intro e1; subst e1; have := hE _ _ hb'; rw [hfr _ (Nat.le_refl _)] at this; cases this
      rw [Hp.get_ne _ _ hne]; exact hE b' k' hb'
    refine ⟨hE2 _, h _ n' _ ⟨0, cap', _, rfl, Hp.get_eq _ _ _, by (try dsimp only); omega, hcap, fun i x hi hx => ?_⟩ (.inr ⟨q1, hfr _ (Nat.le_refl _)⟩) (fun x hx => Hp.get_ne _ _ (fun q => hx q.symm)) (hE2 _)⟩
    (try dsimp only)
    unfold joinC snc
    rw [Nat.zero_add]
    by_cases e1 : i = m
    · subst e1
      rw [if_pos (by omega), if_neg (by omega), if_pos rfl]
      congr 2; omega
    · rw [if_pos (by omega), if_pos (by omega), if_neg e1]
      show SV.int IntKind.u8 (I ((i * 8 + x) / 8) ((i * 8 + x) % 8)) = _
      rw [show (i * 8 + x) / 8 = i by omega, show (i * 8 + x) % 8 = x by omega]

end

end Go.V

namespace Go.Proofs.YtkmfdhicjaccaaaGreat

open Go.V

variable [BW]

set_option linter.unusedSimpArgs false

set_option linter.unusedVariables false

set_option maxHeartbeats 4000000

theorem field_plusZ (p n' k : Int) (v w : Nat → Int) (b o : Nat) (K : Blk) (H : Hp) (n : Nat) (hp : 2 ≤ p ∧ p ≤ 31) (hb : H.get b = some K) (ho : o + 8 ≤ K.size)
    (hc : ∀ i, i < 8 → K.c (o + i) = .int .u8 (v i)) (hv : isRes p 8 v) (hw : isBy 8 w) (hk : -100000 ≤ k ∧ k ≤ 100000) :
    FnS Tryz.prog 50 [fld p n', ptr b o, i64 k, .arr 8 (bys w)] H n (fun r H' _ => r = .tup [] ∧ H' = H.set b (splice K.c o 8 (bys (pl p v k w)))) := by
  refine FnS.of_body Tryz.func50 tr50 (by simp) (fun hf => ?_)
  dsimp only [argEnv]
  unfold ir50
  have hbn := getlt hf hb
  (refine zG ?_)
  refine zI ?_ ?_<;>intro h1
  · (refine zG ?_)
    subst h1
    refine ⟨.tup [], H.set b (splice K.c o 8 (bys (pl p v 0 w))), rfl, ?_, rfl, rfl⟩
    have hd : Drops n H (H.set b (splice K.c o 8 (bys (pl p v 0 w)))) := by
      have := Drops.setc (m := n) (c := K.c) (c1 := splice K.c o 8 (bys (pl p v 0 w))) hb (fun q hq => by
        unfold splice
        by_cases e : o ≤ q ∧ q < o + 8
        · rw [if_pos e]
          have := hc (q - o) (by omega)
          rw [show o + (q - o) = q by omega] at this
          rw [this]
          exact congrArg (SV.int .u8) (pl_zero w hv (by omega)).symm
        · rw [if_neg e])
      rwa [Hp.set_self hb] at this
    exact Drops.drop (by omega) (Hp.get_set_none _ (hf _ (by omega))) (Drops.drop (by omega) (Hp.get_set_none _ (hf _ (by omega))) hd)
  · (refine zG ?_)
    refine CS.iter 8 (fun i => [(13, i64 i), (12, .arr 8 (bys w)), (1, ptr b o), (2, i64 k), (4, ptr n 0)])
      (fun i => (n + 1, ⟨8, bys w, 31⟩) :: (n, ⟨2, fldC p n', 71⟩) :: H.set b (splice K.c o i (bys (pl p v k w)))) (fun _ => True) (by (repeat first | exact trivial | refine And.intro rfl ?_))
      (by rw [splice_zero, Hp.set_self hb]; exact Drops.refl _ _) trivial ?_
    intro i n1 hi hn _
    (refine zG ?_)
    refine zI ?_ ?_<;>intro h2
    · have hvi := hv i (by omega)
      have hwi := hw i (by omega)
      have hm := mulN hk hwi
      have hplb : 0 ≤ pl p v k w i ∧ pl p v k w i < p := modB _ hp.1
      have hst : ∀ q, q < 8 → splice K.c o i (bys (pl p v k w)) (o + q) = .int .u8 (prt (pl p v k w) v i q) := fun q hq => by
        unfold splice prt
        by_cases e : q < i
        · rw [if_pos (by omega), if_pos e, Nat.add_sub_cancel_left]; rfl
        · rw [if_neg (by omega), if_neg e]; exact hc q hq
      have hpi := prt_at (pl p v k w) v i
      have hpl : (prt (pl p v k w) v i i + k * w i) % p = pl p v k w i := by rw [hpi]; rfl
      (refine zG ?_)
      refine LS.callQ (u8 (pl p v k w i)) rfl (fun q hq => FnS.args ?_ ((field_mod p n' (prt (pl p v k w) v i i + k * w i) _ _ hp.1 hp.2 (by omega)).mono (fun r H' _ _ h => by rw [hpl] at h; exact h))) ?_
      · exact concs_cons (conc_arr (fldC_of rfl rfl)) rfl
      (repeat first|refine zG ?_|(refine LS.nilO ?_;intro nq hnq hltq;try refine zU ?_)|(refine MS.new ?_;intro bq hbq hbqf;try refine zU ?_)|(refine MS.nil ?_;intro nq hnq hltq;have hlq:=hltq _ _ (Hp.get_eq _ _ _);clear hltq;try refine zU ?_)|(refine LS.nilQ ?_;try with_reducible intro nq hnq;try refine zU ?_))
      refine ⟨by omega, by (repeat first | exact trivial | refine And.intro rfl ?_), Drops.keepc rfl rfl (fun _ _ => rfl) (Drops.keepc rfl rfl (fun _ _ => rfl) (Drops.setc hb (fun q hq => congrFun (splice_put K.c (bys (pl p v k w)) o i) q))), trivial⟩
    · have : i = 8 := by omega
      subst this
      (refine zG ?_)
      try simp only [↓reduceIte]
      (repeat first|refine zG ?_|(refine LS.nilO ?_;intro nq hnq hltq;try refine zU ?_)|(refine MS.new ?_;intro bq hbq hbqf;try refine zU ?_)|(refine MS.nil ?_;intro nq hnq hltq;have hlq:=hltq _ _ (Hp.get_eq _ _ _);clear hltq;try refine zU ?_)|(refine LS.nilQ ?_;try with_reducible intro nq hnq;try refine zU ?_))
      exact ⟨.tup [], H.set b (splice K.c o 8 (bys (pl p v k w))), rfl, Drops.drop (by omega) (Hp.get_set_none _ (hf _ (by omega))) (Drops.drop (by omega) (Hp.get_set_none _ (hf _ (by omega))) (Drops.refl _ _)), rfl, rfl⟩

/-- impl.lead$1 -/
def ir103 : Cd := (.seq (.reg [⟨some 2,none,.mov (.c (.bool false))⟩]) (.seq (.reg [⟨some 3,none,.mov (.t 0)⟩,⟨some 4,none,.bin .neq (.t 3) (.c (.int .u8 0))⟩,⟨some 2,none,.mov (.t 4)⟩]) .ret))

set_option maxRecDepth 100000 in
theorem tr103 : trFn Tryz.prog Tryz.f103 = some (5, ir103, [.tmp 2]) := by kernel_rfl

theorem impl_lead_1 (x : Int) (H : Hp) (n : Nat) (hx : 0 ≤ x ∧ x ≤ 255) :
    FnS Tryz.prog 103 [u8 x] H n (fun r H' _ => r = bl (tb (x ≠ 0)) ∧ H' = H) := by
  refine FnS.of_body Tryz.func103 tr103 (by simp) (fun hf => ?_)
  dsimp only [argEnv]
  unfold ir103
  (repeat first|refine zG ?_|(refine LS.nilO ?_;intro nq hnq hltq;try refine zU ?_)|(refine MS.new ?_;intro bq hbq hbqf;try refine zU ?_)|(refine MS.nil ?_;intro nq hnq hltq;have hlq:=hltq _ _ (Hp.get_eq _ _ _);clear hltq;try refine zU ?_)|(refine LS.nilQ ?_;try with_reducible intro nq hnq;try refine zU ?_))
  exact ⟨_, H, rfl, by exact zD, by rw [tb_dec]; simp [bne, BEq.beq], rfl⟩

/-- slices.IndexFunc[[]byte,byte] -/
def ir102 : Cd := (.seq (.reg [⟨some 4,none,.mov (.c (.int .i64 0))⟩]) (.seq (.seq (.reg [⟨some 6,none,.mov (.t 0)⟩,⟨some 7,none,.len (.t 6)⟩,⟨some 8,none,.mov (.c (.int .i64 0))⟩]) (.block 0 (.loop (.seq (.reg [⟨some 9,none,.bin .lss (.t 8) (.t 7)⟩]) (.seq (.cond (.t 9) .skip (.exit 0)) (.seq (.block 1 (.seq (.reg [⟨some 10,none,.mov (.t 8)⟩,⟨some 5,none,.mov (.t 10)⟩]) (.seq (.reg [⟨some 11,none,.mov (.t 1)⟩,⟨some 12,none,.mov (.t 0)⟩,⟨some 13,none,.mov (.t 5)⟩,⟨some 14,none,.isl 1 (.t 12) (.t 13)⟩,⟨some 15,none,.ld none (.t 14)⟩,⟨some 16,none,.callv (.t 11) [(.t 15)]⟩]) (.cond (.t 16) (.seq (.reg [⟨some 17,none,.mov (.t 5)⟩,⟨some 4,none,.mov (.t 17)⟩]) .ret) .skip)))) (.reg [⟨some 18,none,.bin .add (.t 8) (.c (.int .i64 1))⟩,⟨some 8,none,.mov (.t 18)⟩]))))))) (.seq (.reg [⟨some 4,none,.mov (.c (.int .i64 (-1)))⟩]) .ret)))

set_option maxRecDepth 100000 in
theorem tr102 : trFn Tryz.prog Tryz.f102 = some (19, ir102, [.tmp 4]) := by kernel_rfl

theorem slices_IndexFuncB (w : Nat → Int) (b : Nat) (K : Blk) (H : Hp) (n : Nat) (hb : H.get b = some K) (hs : K.size = 8) (hc : ∀ q, q < 8 → K.c (0 + q) = .int .u8 (w q)) (hw : isBy 8 w) (hq : fsn w 8 < 8) :
    FnS Tryz.prog 102 [.s (.slc b 0 8 8), .s (.fn 103 [] [])] H n (fun r H' _ => r = i64 (fsn w 8 : Nat) ∧ H' = H) := by
  refine FnS.of_body Tryz.func102 tr102 (by simp) (fun hf => ?_)
  dsimp only [argEnv]
  unfold ir102
  have hbn := getlt hf hb
  (repeat first|refine zG ?_|(refine LS.nilO ?_;intro nq hnq hltq;try refine zU ?_)|(refine MS.new ?_;intro bq hbq hbqf;try refine zU ?_)|(refine MS.nil ?_;intro nq hnq hltq;have hlq:=hltq _ _ (Hp.get_eq _ _ _);clear hltq;try refine zU ?_)|(refine LS.nilQ ?_;try with_reducible intro nq hnq;try refine zU ?_))
  refine CS.iter 8 (fun i => [(8, i64 (i : Nat)), (7, i64 8), (0, .s (.slc b 0 8 8)), (1, .s (.fn 103 [] []))]) (fun _ => H) (fun i => ∀ i', i' < i → w i' = 0) (by (repeat first | exact trivial | refine And.intro rfl ?_)) (Drops.refl _ _) (fun _ h => by omega) ?_
  intro i n1 hi hn hJ
  (repeat first|refine zG ?_|(refine LS.nilO ?_;intro nq hnq hltq;try refine zU ?_)|(refine MS.new ?_;intro bq hbq hbqf;try refine zU ?_)|(refine MS.nil ?_;intro nq hnq hltq;have hlq:=hltq _ _ (Hp.get_eq _ _ _);clear hltq;try refine zU ?_)|(refine LS.nilQ ?_;try with_reducible intro nq hnq;try refine zU ?_))
  refine zI ?_ ?_<;>intro h1
  · have hci := hc i (by omega)
    rw [show 0 + i = 0 + i * 1 by omega] at hci
    have hwi := hw i (by omega)
    (repeat first|refine zG ?_|(refine LS.nilO ?_;intro nq hnq hltq;try refine zU ?_)|(refine MS.new ?_;intro bq hbq hbqf;try refine zU ?_)|(refine MS.nil ?_;intro nq hnq hltq;have hlq:=hltq _ _ (Hp.get_eq _ _ _);clear hltq;try refine zU ?_)|(refine LS.nilQ ?_;try with_reducible intro nq hnq;try refine zU ?_))
    refine RS.callv (f := 103) (pre := []) (post := []) (vs := [u8 (w i)]) (by exact rfl) (by exact rfl) ?_
    refine FnS.mono (impl_lead_1 (w i) _ _ hwi) ?_
    rintro r H n2 hn2 ⟨rfl, rfl⟩
    (repeat first|refine zG ?_|(refine LS.nilO ?_;intro nq hnq hltq;try refine zU ?_)|(refine MS.new ?_;intro bq hbq hbqf;try refine zU ?_)|(refine MS.nil ?_;intro nq hnq hltq;have hlq:=hltq _ _ (Hp.get_eq _ _ _);clear hltq;try refine zU ?_)|(refine LS.nilQ ?_;try with_reducible intro nq hnq;try refine zU ?_))
    refine zI ?_ ?_<;>intro h2
    · (repeat first|refine zG ?_|(refine LS.nilO ?_;intro nq hnq hltq;try refine zU ?_)|(refine MS.new ?_;intro bq hbq hbqf;try refine zU ?_)|(refine MS.nil ?_;intro nq hnq hltq;have hlq:=hltq _ _ (Hp.get_eq _ _ _);clear hltq;try refine zU ?_)|(refine LS.nilQ ?_;try with_reducible intro nq hnq;try refine zU ?_))
      exact ⟨_, H, rfl, by exact zD, by rw [fsn_eq (show i < 8 by omega) hJ h2], rfl⟩
    · (repeat first|refine zG ?_|(refine LS.nilO ?_;intro nq hnq hltq;try refine zU ?_)|(refine MS.new ?_;intro bq hbq hbqf;try refine zU ?_)|(refine MS.nil ?_;intro nq hnq hltq;have hlq:=hltq _ _ (Hp.get_eq _ _ _);clear hltq;try refine zU ?_)|(refine LS.nilQ ?_;try with_reducible intro nq hnq;try refine zU ?_))
      refine ⟨by omega, by (repeat first | exact trivial | refine And.intro rfl ?_), Drops.refl _ _, fun i' hi' => ?_⟩
      by_cases e : i' = i
      · subst e; exact Classical.not_not.1 h2
      · exact hJ i' (by omega)
  · obtain rfl : i = 8 := by omega
    exact absurd (hJ (fsn w 8) hq) (fsn_hit w 8 hq)

/-- impl.lead -/
def ir70 : Cd := (.seq (.reg [⟨some 1,none,.box 31 (.t 0)⟩,⟨some 2,none,.mov (.c (.int .i64 0))⟩]) (.seq (.reg [⟨some 3,none,.sla 8 1 (.t 1) none none none⟩,⟨some 4,none,.call 102 [(.t 3),(.c (.fn 103 [] []))]⟩,⟨some 2,none,.mov (.t 4)⟩]) .ret))

set_option maxRecDepth 100000 in
theorem tr70 : trFn Tryz.prog Tryz.f70 = some (5, ir70, [.tmp 2]) := by kernel_rfl

theorem impl_lead (w : Nat → Int) (H : Hp) (n : Nat) (hw : isBy 8 w) (hq : fsn w 8 < 8) :
    FnS Tryz.prog 70 [.arr 8 (bys w)] H n (fun r H' _ => r = i64 (fsn w 8 : Nat) ∧ H' = H) := by
  refine FnS.of_body Tryz.func70 tr70 (by simp) (fun hf => ?_)
  dsimp only [argEnv]
  unfold ir70
  (repeat first|refine zG ?_|(refine LS.nilO ?_;intro nq hnq hltq;try refine zU ?_)|(refine MS.new ?_;intro bq hbq hbqf;try refine zU ?_)|(refine MS.nil ?_;intro nq hnq hltq;have hlq:=hltq _ _ (Hp.get_eq _ _ _);clear hltq;try refine zU ?_)|(refine LS.nilQ ?_;try with_reducible intro nq hnq;try refine zU ?_))
  refine RS.call rfl ((slices_IndexFuncB w n _ _ _ (by exact zH) rfl (fun q hq => by rw [Nat.zero_add]; rfl) hw hq).mono ?_)
  rintro r H' n2 hn2 ⟨rfl, rfl⟩
  (repeat first|refine zG ?_|(refine LS.nilO ?_;intro nq hnq hltq;try refine zU ?_)|(refine MS.new ?_;intro bq hbq hbqf;try refine zU ?_)|(refine MS.nil ?_;intro nq hnq hltq;have hlq:=hltq _ _ (Hp.get_eq _ _ _);clear hltq;try refine zU ?_)|(refine LS.nilQ ?_;try with_reducible intro nq hnq;try refine zU ?_))
  exact ⟨_, H, rfl, by exact zD, rfl, rfl⟩

/-- (impl.field).rest -/
def ir36 : Cd := (.seq (.reg [⟨some 3,none,.box 71 (.t 0)⟩,⟨some 5,none,.box 31 (.t 2)⟩,⟨some 6,none,.new 31 [(8,(.int .u8 0))]⟩]) (.seq (.seq (.reg [⟨some 9,none,.mov (.t 1)⟩,⟨some 10,none,.len (.t 9)⟩,⟨some 11,none,.mov (.c (.int .i64 0))⟩]) (.block 0 (.loop (.seq (.reg [⟨some 12,none,.bin .lss (.t 11) (.t 10)⟩]) (.seq (.cond (.t 12) .skip (.exit 0)) (.seq (.block 1 (.seq (.reg [⟨some 13,none,.isl 8 (.t 9) (.t 11)⟩,⟨some 14,none,.ld (some 8) (.t 13)⟩,⟨some 8,none,.new 31 [(8,(.int .u8 0))]⟩,⟨none,none,.st 8 (.t 8) (.t 14)⟩]) (.drw true [8] [⟨some 15,none,.ld (some 2) (.t 3)⟩,⟨some 16,none,.ld (some 8) (.t 8)⟩,⟨some 17,none,.call 70 [(.t 16)]⟩,⟨some 18,none,.ia 8 1 (.t 5) (.t 17)⟩,⟨some 19,none,.ld none (.t 18)⟩,⟨some 20,none,.cv .i64 (.t 19)⟩,⟨some 21,none,.un .neg (.t 20)⟩,⟨some 22,none,.ld (some 8) (.t 8)⟩,⟨some 23,none,.call 50 [(.t 15),(.t 5),(.t 21),(.t 22)]⟩]))) (.reg [⟨some 24,none,.bin .add (.t 11) (.c (.int .i64 1))⟩,⟨some 11,none,.mov (.t 24)⟩]))))))) (.seq (.reg [⟨some 25,none,.ld (some 8) (.t 5)⟩,⟨none,none,.st 8 (.t 6) (.t 25)⟩]) .ret)))

set_option maxRecDepth 100000 in
theorem tr36 : trFn Tryz.prog Tryz.f36 = some (26, ir36, [.cell (some 8) 6]) := by kernel_rfl

theorem field_rest (p n' : Int) (A : Nat → Nat → Int) (m b : Nat) (sv : SV) (v : Nat → Int) (H : Hp) (n : Nat) (hp : 2 ≤ p ∧ p ≤ 31) (hm : m ≤ 4000000) (hV : VL H sv m A b) (hA : ∀ i, i < m → isRes p 8 (A i)) (hlt : ∀ i, i < m → fsn (A i) 8 < 8) (hv : isRes p 8 v) :
    FnS Tryz.prog 36 [fld p n', .s sv, .arr 8 (bys v)] H n (fun r H' _ => r = .arr 8 (bys (rdk p A v m)) ∧ H' = H) := by
  obtain ⟨o, cap, K, rfl, gb, ho, hmc, hc⟩ := hV
  refine FnS.of_body Tryz.func36 tr36 (by simp) (fun hf => ?_)
  dsimp only [argEnv]
  unfold ir36
  have hbn := getlt hf gb
  (repeat first|refine zG ?_|(refine LS.nilO ?_;intro nq hnq hltq;try refine zU ?_)|(refine MS.new ?_;intro bq hbq hbqf;try refine zU ?_)|(refine MS.nil ?_;intro nq hnq hltq;have hlq:=hltq _ _ (Hp.get_eq _ _ _);clear hltq;try refine zU ?_)|(refine LS.nilQ ?_;try with_reducible intro nq hnq;try refine zU ?_))
  refine CS.iter m (fun i => [(11, i64 (i : Nat)), (10, i64 (m : Nat)), (9, .s (.slc b o m cap)), (3, ptr n 0), (5, ptr (n + 1) 0), (6, ptr (n + 2) 0)])
    (fun i => (n + 2, ⟨8, fun _ => .int .u8 0, 31⟩) :: (n + 1, ⟨8, bys (rdk p A v i), 31⟩) :: (n, ⟨2, fldC p n', 71⟩) :: H) (fun _ => True) (by (repeat first | exact trivial | refine And.intro rfl ?_))
    (Drops.keepc rfl rfl (fun q hq => ?_) (Drops.keepc rfl rfl (fun _ _ => rfl) (Drops.refl _ _))) trivial ?_
  · rcases (show q = 0 ∨ q = 1 ∨ q = 2 ∨ q = 3 ∨ q = 4 ∨ q = 5 ∨ q = 6 ∨ q = 7 by (simp only [Zs.size] at hq; omega)) with rfl | rfl | rfl | rfl | rfl | rfl | rfl | rfl <;> rfl
  intro i n1 hi hn _
  (repeat first|refine zG ?_|(refine LS.nilO ?_;intro nq hnq hltq;try refine zU ?_)|(refine MS.new ?_;intro bq hbq hbqf;try refine zU ?_)|(refine MS.nil ?_;intro nq hnq hltq;have hlq:=hltq _ _ (Hp.get_eq _ _ _);clear hltq;try refine zU ?_)|(refine LS.nilQ ?_;try with_reducible intro nq hnq;try refine zU ?_))
  refine zI ?_ ?_<;>intro h1
  · have hi' : i < m := by omega
    have e9 : ∀ q, q < 8 → K.c (o + i * 8 + q) = .int .u8 (A i q) := fun q hq => by rw [Nat.add_assoc]; exact hc i q hi' hq
    have hAb : isBy 8 (A i) := isRes.by (hA i hi') hp.2
    have hl := hlt i hi'
    have hrk : isRes p 8 (rdk p A v i) := rdk_res hp.1 hv i
    have hrt := hrk (fsn (A i) 8) hl
    have hr1 : (bys (rdk p A v i)) (fsn (A i) 8) = .int .u8 (rdk p A v i (fsn (A i) 8)) := rfl
    (repeat first|refine zG ?_|(refine LS.nilO ?_;intro nq hnq hltq;try refine zU ?_)|(refine MS.new ?_;intro bq hbq hbqf;try refine zU ?_)|(refine MS.nil ?_;intro nq hnq hltq;have hlq:=hltq _ _ (Hp.get_eq _ _ _);clear hltq;try refine zU ?_)|(refine LS.nilQ ?_;try with_reducible intro nq hnq;try refine zU ?_))
    refine LS.callQ (i64 (fsn (A i) 8 : Nat)) rfl (fun n' hn' => impl_lead (A i) _ _ hAb hl) ?_
    (repeat first|refine zG ?_|(refine LS.nilO ?_;intro nq hnq hltq;try refine zU ?_)|(refine MS.new ?_;intro bq hbq hbqf;try refine zU ?_)|(refine MS.nil ?_;intro nq hnq hltq;have hlq:=hltq _ _ (Hp.get_eq _ _ _);clear hltq;try refine zU ?_)|(refine LS.nilQ ?_;try with_reducible intro nq hnq;try refine zU ?_))
    refine RS.neg64 (by exact rfl) (by omega) ?_
    (repeat first|refine zG ?_|(refine LS.nilO ?_;intro nq hnq hltq;try refine zU ?_)|(refine MS.new ?_;intro bq hbq hbqf;try refine zU ?_)|(refine MS.nil ?_;intro nq hnq hltq;have hlq:=hltq _ _ (Hp.get_eq _ _ _);clear hltq;try refine zU ?_)|(refine LS.nilQ ?_;try with_reducible intro nq hnq;try refine zU ?_))
    refine RS.call rfl ((field_plusZ p n' (-(rdk p A v i (fsn (A i) 8))) (rdk p A v i) (A i) (n + 1) 0 _ _ _ hp (by exact zH) (by simp) (fun _ _ => by rw [Nat.zero_add]; rfl) hrk hAb (by omega)).mono ?_)
    rintro r H' n4 hn4 ⟨rfl, rfl⟩
    simp (disch := omega) only [Hp.set_eq, Hp.set_ne]
    (repeat first|refine zG ?_|(refine LS.nilO ?_;intro nq hnq hltq;try refine zU ?_)|(refine MS.new ?_;intro bq hbq hbqf;try refine zU ?_)|(refine MS.nil ?_;intro nq hnq hltq;have hlq:=hltq _ _ (Hp.get_eq _ _ _);clear hltq;try refine zU ?_)|(refine LS.nilQ ?_;try with_reducible intro nq hnq;try refine zU ?_))
    exact ⟨by omega, by (repeat first | exact trivial | refine And.intro rfl ?_), Drops.drop (by omega) (by simp (disch := omega) only [Hp.get_ne]; exact hf _ (by omega)) (Drops.keepc rfl rfl (fun _ _ => rfl) (Drops.keepc rfl rfl (fun q hq => (splice_all _ _ 8 q hq).trans (by rw [rdk_succ])) (Drops.refl _ _))), trivial⟩
  · obtain rfl : i = m := by omega
    (repeat first|refine zG ?_|(refine LS.nilO ?_;intro nq hnq hltq;try refine zU ?_)|(refine MS.new ?_;intro bq hbq hbqf;try refine zU ?_)|(refine MS.nil ?_;intro nq hnq hltq;have hlq:=hltq _ _ (Hp.get_eq _ _ _);clear hltq;try refine zU ?_)|(refine LS.nilQ ?_;try with_reducible intro nq hnq;try refine zU ?_))
    exact ⟨.arr 8 (bys (rdk p A v i)), H, conc_arr (fun q hq => by first | rfl | (simp only [Nat.zero_add]; done) | (simp only [Nat.zero_add]; rfl)), by exact zD, rfl, rfl⟩

/-- impl.within$1 -/
def ir104 : Cd := (.seq (.reg [⟨some 3,none,.box 31 (.t 0)⟩,⟨some 4,none,.mov (.c (.bool false))⟩]) (.seq (.reg [⟨some 5,none,.ld (some 2) (.t 1)⟩,⟨some 6,none,.ld none (.t 2)⟩,⟨some 7,none,.ld (some 8) (.t 3)⟩,⟨some 8,none,.call 36 [(.t 5),(.t 6),(.t 7)]⟩,⟨some 9,none,.build 8 [(8,(.int .u8 0))] []⟩,⟨some 10,none,.eqa true 8 (.t 8) (.t 9)⟩,⟨some 4,none,.mov (.t 10)⟩]) .ret))

set_option maxRecDepth 100000 in
theorem tr104 : trFn Tryz.prog Tryz.f104 = some (11, ir104, [.tmp 4]) := by kernel_rfl

theorem impl_within_1 (p : Int) (A : Nat → Nat → Int) (m b fb sb : Nat) (sv : SV) (w : Nat → Int) (Kf Ks : Blk) (H : Hp) (n : Nat) (hp : 2 ≤ p ∧ p ≤ 31) (hm : m ≤ 4000000) (hV : VL H sv m A b) (hA : ∀ i, i < m → isRes p 8 (A i)) (hlt : ∀ i, i < m → fsn (A i) 8 < 8) (hw : isRes p 8 w)
    (gf : H.get fb = some Kf) (sf : Kf.size = 2) (f0 : Kf.c 0 = .int .i64 p) (f1 : Kf.c 1 = .int .i64 8) (gs : H.get sb = some Ks) (ss : Ks.size = 1) (s0 : Ks.c 0 = sv) :
    FnS Tryz.prog 104 [.arr 8 (bys w), ptr fb 0, ptr sb 0] H n (fun r H' _ => r = bl (tb (¬isIn p A m w)) ∧ H' = H) := by
  have hfld : ∀ q, q < 2 → Kf.c (0 + q) = fldC p 8 q := fun q hq => by
    rcases (show q = 0 ∨ q = 1 by omega) with rfl | rfl
    · exact f0
    · exact f1
  refine FnS.of_body Tryz.func104 tr104 (by simp) (fun hf => ?_)
  dsimp only [argEnv]
  unfold ir104
  have h1 := getlt hf gf
  have h2 := getlt hf gs
  have h3 := hV.bound hf
  (repeat first|refine zG ?_|(refine LS.nilO ?_;intro nq hnq hltq;try refine zU ?_)|(refine MS.new ?_;intro bq hbq hbqf;try refine zU ?_)|(refine MS.nil ?_;intro nq hnq hltq;have hlq:=hltq _ _ (Hp.get_eq _ _ _);clear hltq;try refine zU ?_)|(refine LS.nilQ ?_;try with_reducible intro nq hnq;try refine zU ?_))
  refine RS.call rfl ((FnS.args (concs_cons (conc_arr hfld) rfl) (field_rest p 8 A m b sv w _ _ hp hm (hV.keep (Hp.get_ne _ _ (by omega))) hA hlt hw)).mono ?_)
  rintro r H' n2 hn2 ⟨rfl, rfl⟩
  (repeat first|refine zG ?_|(refine LS.nilO ?_;intro nq hnq hltq;try refine zU ?_)|(refine MS.new ?_;intro bq hbq hbqf;try refine zU ?_)|(refine MS.nil ?_;intro nq hnq hltq;have hlq:=hltq _ _ (Hp.get_eq _ _ _);clear hltq;try refine zU ?_)|(refine LS.nilQ ?_;try with_reducible intro nq hnq;try refine zU ?_))
  exact ⟨_, H, rfl, by exact zD, by rw [tb_not]; rfl, rfl⟩

/-- impl.within -/
def ir71 : Cd := (.seq (.reg [⟨some 4,none,.box 44 (.t 1)⟩,⟨some 6,none,.mov (.c (.bool false))⟩]) (.seq (.reg [⟨some 8,none,.mov (.t 0)⟩,⟨some 9,none,.build 2 [(2,(.int .i64 0))] [(0,1,(.t 8)),(1,1,(.c (.int .i64 8)))]⟩,⟨some 7,none,.new 71 [(2,(.int .i64 0))]⟩,⟨none,none,.st 2 (.t 7) (.t 9)⟩]) (.seq (.reg [⟨some 10,none,.mov (.t 2)⟩,⟨some 11,none,.mkf 104 [] [(.t 7),(.t 4)]⟩,⟨some 12,none,.call 63 [(.t 10),(.t 11)]⟩,⟨some 13,none,.un .not (.t 12)⟩,⟨some 6,none,.mov (.t 13)⟩]) .ret)))

set_option maxRecDepth 100000 in
theorem tr71 : trFn Tryz.prog Tryz.f71 = some (14, ir71, [.tmp 6]) := by kernel_rfl

theorem impl_within (p : Int) (A L : Nat → Nat → Int) (m k b lb : Nat) (sv lv : SV) (H : Hp) (n : Nat) (hp : 2 ≤ p ∧ p ≤ 31) (hm : m ≤ 4000000) (hk : k ≤ 4000000) (hV : VL H sv m A b) (hL : VL H lv k L lb) (hA : ∀ i, i < m → isRes p 8 (A i)) (hlt : ∀ i, i < m → fsn (A i) 8 < 8) (hLr : ∀ i, i < k → isRes p 8 (L i)) :
    FnS Tryz.prog 71 [i64 p, .s sv, .s lv] H n (fun r H' _ => r = bl (tb (∀ i, i < k → isIn p A m (L i))) ∧ H' = H) := by
  refine FnS.of_body Tryz.func71 tr71 (by simp) (fun hf => ?_)
  dsimp only [argEnv]
  unfold ir71
  have h1 := hV.bound hf
  have h2 := hL.bound hf
  (repeat first|refine zG ?_|(refine LS.nilO ?_;intro nq hnq hltq;try refine zU ?_)|(refine MS.new ?_;intro bq hbq hbqf;try refine zU ?_)|(refine MS.nil ?_;intro nq hnq hltq;have hlq:=hltq _ _ (Hp.get_eq _ _ _);clear hltq;try refine zU ?_)|(refine LS.nilQ ?_;try with_reducible intro nq hnq;try refine zU ?_))
  refine RS.call rfl ((slices_ContainsFunc (fun i => ¬isIn p A m (L i)) 104 [.ptr (n + 1) 0, .ptr n 0] lv k hk (fun q => L (q / 8) (q % 8)) _ _ ((hL.keep (by simp (disch := omega) only [Hp.get_ne])).lst) (fun i n' hi hn' =>
    FnS.args (concs_cons (conc_arr (fun q hq => by show SV.int .u8 (L ((i * 8 + q) / 8) ((i * 8 + q) % 8)) = _; rw [VL.row L i q hq]; rfl)) rfl) (impl_within_1 p A m b (n + 1) n sv (L i) _ _ _ _ hp hm (hV.keep (by simp (disch := omega) only [Hp.get_ne])) hA hlt (hLr i hi) (by exact zH) rfl rfl rfl (by exact zH) rfl rfl))).mono ?_)
  rintro r H' n2 hn2 ⟨rfl, rfl⟩
  (repeat first|refine zG ?_|(refine LS.nilO ?_;intro nq hnq hltq;try refine zU ?_)|(refine MS.new ?_;intro bq hbq hbqf;try refine zU ?_)|(refine MS.nil ?_;intro nq hnq hltq;have hlq:=hltq _ _ (Hp.get_eq _ _ _);clear hltq;try refine zU ?_)|(refine LS.nilQ ?_;try with_reducible intro nq hnq;try refine zU ?_))
  refine ⟨_, H, rfl, by exact zD, ?_, rfl⟩
  rw [tb_not]
  exact congrArg bl (tb_iff ⟨fun q i hi => Classical.byContradiction fun h1 => q ⟨i, hi, h1⟩, fun q ⟨i, hi, h1⟩ => h1 (q i hi)⟩)

/-- (*impl.Module).led -/
def ir72 : Cd := (.seq (.reg [⟨some 6,none,.mov (.c .nils)⟩]) (.seq (.reg [⟨some 11,none,.bsl 31 0 8 [(8,(.int .u8 0))] []⟩,⟨some 7,none,.mov (.t 11)⟩]) (.seq (.seq (.reg [⟨some 12,none,.mov (.t 1)⟩,⟨some 13,none,.ck (.t 12)⟩,⟨some 14,none,.fa 1 (.t 13)⟩,⟨some 15,none,.ld none (.t 14)⟩,⟨some 16,none,.mov (.c (.int .i64 0))⟩]) (.block 0 (.loop (.seq (.reg [⟨some 17,none,.bin .lss (.t 16) (.t 15)⟩]) (.seq (.cond (.t 17) .skip (.exit 0)) (.seq (.block 1 (.seq (.reg [⟨some 18,none,.mov (.t 16)⟩,⟨some 8,none,.mov (.t 18)⟩]) (.seq (.reg [⟨some 19,none,.mov (.t 2)⟩,⟨some 20,none,.len (.t 19)⟩,⟨some 21,none,.mov (.c (.int .i64 0))⟩]) (.block 2 (.loop (.seq (.reg [⟨some 22,none,.bin .lss (.t 21) (.t 20)⟩]) (.seq (.cond (.t 22) .skip (.exit 2)) (.seq (.block 3 (.seq (.reg [⟨some 23,none,.isl 8 (.t 19) (.t 21)⟩,⟨some 24,none,.ld (some 8) (.t 23)⟩,⟨some 10,none,.new 31 [(8,(.int .u8 0))]⟩,⟨none,none,.st 8 (.t 10) (.t 24)⟩]) (.drwo true [12] [0,1,2,4,5,6,7,8,9,3,10,11,12,13] [⟨some 25,none,.mov (.t 7)⟩,⟨some 26,none,.mov (.t 0)⟩,⟨some 27,none,.mov (.t 1)⟩,⟨some 28,none,.call 31 [(.t 26),(.t 27)]⟩,⟨some 29,none,.mov (.t 0)⟩,⟨some 30,none,.mov (.t 8)⟩,⟨some 31,none,.ck (.t 29)⟩,⟨some 32,none,.fa 1 (.t 31)⟩,⟨some 33,none,.ia 8 64 (.t 32) (.t 30)⟩,⟨some 34,none,.ld (some 8) (.t 10)⟩,⟨some 35,none,.call 105 [(.t 28),(.t 33),(.t 34)]⟩,⟨some 36,none,.bsl 31 1 8 [(8,(.int .u8 0))] [(0,8,(.t 35))]⟩,⟨some 37,none,.app 31 8 8 [(8,(.int .u8 0))] (.t 25) (.t 36)⟩,⟨some 7,none,.mov (.t 37)⟩]))) (.reg [⟨some 38,none,.bin .add (.t 21) (.c (.int .i64 1))⟩,⟨some 21,none,.mov (.t 38)⟩]))))))))) (.reg [⟨some 39,none,.bin .add (.t 16) (.c (.int .i64 1))⟩,⟨some 16,none,.mov (.t 39)⟩]))))))) (.seq (.reg [⟨some 40,none,.mov (.t 7)⟩,⟨some 6,none,.mov (.t 40)⟩]) .ret))))

set_option maxRecDepth 100000 in
theorem tr72 : trFn Tryz.prog Tryz.f72 = some (41, ir72, [.tmp 6]) := by kernel_rfl

theorem Module_led (p : Int) (a N m b bm bh : Nat) (t : Nat → Int) (A : Nat → Nat → Int) (sv : SV) (Km Kh : Blk) (H : Hp) (n : Nat) (hp : 2 ≤ p ∧ p ≤ 31) (ha : a ≤ 8) (hN : N ≤ 8) (hm : m ≤ 8) (gm : H.get bm = some Km) (sm : Km.size = 513) (km : Km.c 0 = .int .i64 (a : Nat)) (cm : ∀ q, q < 512 → Km.c (1 + q) = .int .u8 (t q)) (ht : isBy 512 t)
    (gh : H.get bh = some Kh) (sh : Kh.size = 1106) (kp : Kh.c 0 = .int .i64 p) (kn : Kh.c 1 = .int .i64 (N : Nat)) (hV : VL H sv m A b) (hA : ∀ i, i < m → isRes p 8 (A i)) :
    FnS Tryz.prog 72 [ptr bm 0, ptr bh 0, .s sv] H n (fun r H' n' => ∃ sv' b', r = .s sv' ∧ VL H' sv' (N * m) (ldl p t A m) b' ∧ n ≤ b' ∧ b' < n' ∧ (∀ x, n' ≤ x → H'.get x = none) ∧ ∀ x, x < n → H'.get x = H.get x) := by
  have kn' : Kh.c (0 + 1) = .int .i64 (N : Nat) := kn
  obtain ⟨o, cap, K, rfl, gb, ho, hmc, hc⟩ := hV
  refine FnS.of_body Tryz.func72 tr72 (by simp) (fun hf => ?_)
  dsimp only [argEnv]
  unfold ir72
  have hbm := getlt hf gm
  have hbh := getlt hf gh
  have hbb := getlt hf gb
  (repeat first|refine zG ?_|(refine LS.nilO ?_;intro nq hnq hltq;try refine zU ?_)|(refine MS.new ?_;intro bq hbq hbqf;try refine zU ?_)|(refine MS.nil ?_;intro nq hnq hltq;have hlq:=hltq _ _ (Hp.get_eq _ _ _);clear hltq;try refine zU ?_)|(refine LS.nilQ ?_;try with_reducible intro nq hnq;try refine zU ?_))
  refine CS.weak (e1 := [(16, i64 ((0 : Nat) : Int)), (15, i64 (N : Nat)), (0, ptr bm 0), (1, ptr bh 0), (2, .s (.slc b o m cap)), (7, .s (.slc n 0 0 0))]) (by (repeat first | exact trivial | refine And.intro rfl ?_)) (Drops.refl _ _) ?_
  refine CS.loop (fun k e H1 n1 => ∃ i v7 b7, i ≤ N ∧ k = N - i ∧ e = [(16, i64 (i : Nat)), (15, i64 (N : Nat)), (0, ptr bm 0), (1, ptr bh 0), (2, .s (.slc b o m cap)), (7, .s v7)] ∧ VL H1 v7 (i * m) (ldl p t A m) b7 ∧ n ≤ b7 ∧ b7 < n1 ∧ (∀ x, x < n → H1.get x = H.get x) ∧ ∀ x, n1 ≤ x → H1.get x = none) N ?_ ?_
  · exact ⟨0, _, n, by omega, rfl, rfl, (Nat.zero_mul m).symm ▸ ⟨0, 0, _, rfl, Hp.get_eq _ _ _, by simp, Nat.le_refl _, fun i x hi => by omega⟩, by omega, by omega, fun x hx => Hp.get_ne _ _ (by omega), fun x hx => by rw [Hp.get_ne _ _ (by omega)]; exact hf x (by omega)⟩
  rintro k e H1 n1 hn1 ⟨i, v7, b7, hi, rfl, rfl, hV7, hb7, hb7n, hlow, hfr⟩
  (repeat first|refine zG ?_|(refine LS.nilO ?_;intro nq hnq hltq;try refine zU ?_)|(refine MS.new ?_;intro bq hbq hbqf;try refine zU ?_)|(refine MS.nil ?_;intro nq hnq hltq;have hlq:=hltq _ _ (Hp.get_eq _ _ _);clear hltq;try refine zU ?_)|(refine LS.nilQ ?_;try with_reducible intro nq hnq;try refine zU ?_))
  refine zI ?_ ?_<;>intro h1
  · have hi' : i < N := by omega
    (repeat first|refine zG ?_|(refine LS.nilO ?_;intro nq hnq hltq;try refine zU ?_)|(refine MS.new ?_;intro bq hbq hbqf;try refine zU ?_)|(refine MS.nil ?_;intro nq hnq hltq;have hlq:=hltq _ _ (Hp.get_eq _ _ _);clear hltq;try refine zU ?_)|(refine LS.nilQ ?_;try with_reducible intro nq hnq;try refine zU ?_))
    refine CS.weak (e1 := [(21, i64 ((0 : Nat) : Int)), (20, i64 (m : Nat)), (19, .s (.slc b o m cap)), (8, i64 (i : Nat)), (16, i64 (i : Nat)), (15, i64 (N : Nat)), (0, ptr bm 0), (1, ptr bh 0), (2, .s (.slc b o m cap)), (7, .s v7)]) (by (repeat first | exact trivial | refine And.intro rfl ?_)) (Drops.refl _ _) ?_
    refine CS.loop (fun k e H1 n1 => ∃ j v7 b7, j ≤ m ∧ k = m - j ∧ e = [(21, i64 (j : Nat)), (20, i64 (m : Nat)), (19, .s (.slc b o m cap)), (8, i64 (i : Nat)), (16, i64 (i : Nat)), (15, i64 (N : Nat)), (0, ptr bm 0), (1, ptr bh 0), (2, .s (.slc b o m cap)), (7, .s v7)] ∧ VL H1 v7 (i * m + j) (ldl p t A m) b7 ∧ n ≤ b7 ∧ b7 < n1 ∧ (∀ x, x < n → H1.get x = H.get x) ∧ ∀ x, n1 ≤ x → H1.get x = none) m ?_ ?_
    · exact ⟨0, v7, b7, by omega, rfl, rfl, hV7, hb7, by omega, hlow, fun x hx => hfr x (by omega)⟩
    clear hV7 hb7 hb7n hlow hfr
    rintro k e H2 n2 hn2 ⟨j, v7, b7, hj, rfl, rfl, hV7, hb7, hb7n, hlow, hfr⟩
    have gm2 : H2.get bm = some Km := by rw [hlow bm hbm]; exact gm
    have gh2 : H2.get bh = some Kh := by rw [hlow bh hbh]; exact gh
    have gb2 : H2.get b = some K := by rw [hlow b hbb]; exact gb
    (repeat first|refine zG ?_|(refine LS.nilO ?_;intro nq hnq hltq;try refine zU ?_)|(refine MS.new ?_;intro bq hbq hbqf;try refine zU ?_)|(refine MS.nil ?_;intro nq hnq hltq;have hlq:=hltq _ _ (Hp.get_eq _ _ _);clear hltq;try refine zU ?_)|(refine LS.nilQ ?_;try with_reducible intro nq hnq;try refine zU ?_))
    refine zI ?_ ?_<;>intro h2
    · have hj' : j < m := by omega
      have hNm : i * m + j < 64 := by
        have : i * m ≤ 7 * m := Nat.mul_le_mul_right m (by omega)
        omega
      have e9 : ∀ q, q < 8 → K.c (o + j * 8 + q) = .int .u8 (A j q) := fun q hq => by rw [Nat.add_assoc]; exact hc j q hj' hq
      have hAb : isBy 8 (A j) := isRes.by (hA j hj') hp.2
      (repeat first|refine zG ?_|(refine LS.nilO ?_;intro nq hnq hltq;try refine zU ?_)|(refine MS.new ?_;intro bq hbq hbqf;try refine zU ?_)|(refine MS.nil ?_;intro nq hnq hltq;have hlq:=hltq _ _ (Hp.get_eq _ _ _);clear hltq;try refine zU ?_)|(refine LS.nilQ ?_;try with_reducible intro nq hnq;try refine zU ?_))
      have hn2b : ∀ x, H2.get x ≠ none → x < n2 := fun x hx => by
        rcases Nat.lt_or_ge x n2 with q | q
        · exact q
        · exact absurd (hfr x q) hx
      obtain ⟨HX, hHX⟩ : ∃ HX : Hp, HX = (n2, ⟨Zs.size [(8, SV.int .u8 0)], bys (A j), 31⟩) :: H2 := ⟨_, rfl⟩
      rw [← hHX]
      have gv : HX.get n2 = some ⟨Zs.size [(8, SV.int .u8 0)], bys (A j), 31⟩ := by rw [hHX]; exact Hp.get_eq _ _ _
      have lX : ∀ x, x < n2 → HX.get x = H2.get x := fun x hx => by rw [hHX, Hp.get_ne _ _ (by omega)]
      have gmX : HX.get bm = some Km := by rw [lX bm (by omega)]; exact gm2
      have ghX : HX.get bh = some Kh := by rw [lX bh (by omega)]; exact gh2
      have hEX := Ext.one gv
      refine CS.ordK [(n2, ⟨Zs.size [(8, SV.int .u8 0)], bys (A j), 31⟩)] hEX ?_
      dsimp only [pick, List.filterMap_cons, List.getElem?_cons_zero, List.getElem?_cons_succ, List.filterMap_nil]
      refine FL.step (ST.mov (by exact rfl) ?_)
      refine FL.step (ST.mov (by exact rfl) ?_)
      refine FL.step (ST.mov (by exact rfl) ?_)
      refine FL.step (ST.mov (by exact rfl) ?_)
      refine FL.step (ST.mov (by exact rfl) ?_)
      refine FL.step (ST.ck (by exact rfl) ?_)
      refine FL.step (ST.fa (by exact rfl) ?_)
      refine FL.step (ST.ia (j := i) (by exact rfl) (by exact rfl) (by omega) ?_)
      refine FL.step (ST.ldn (c := bys (A j)) (by exact rfl) (Hp.get_eq _ _ _) (by simp [Zs.size]) (by funext x; rw [Nat.zero_add]) ?_)
      refine FL.step (ST.callq (fld p a) hEX rfl (fun n' h1 h2 => Module_field p (a : Nat) bm bh Km Kh _ _ gmX ghX (by omega) (by omega) km kp) ?_)
      refine FL.step (ST.callq (.arr 8 (bys (ldl p t A m (i * m + j)))) hEX rfl (fun n' h1 h2 => by
        unfold ldl
        rw [show (i * m + j) / m = i by rw [Nat.mul_comm, Nat.mul_add_div (by omega), Nat.div_eq_of_lt hj', Nat.add_zero], show (i * m + j) % m = j by rw [Nat.mul_comm, Nat.mul_add_mod, Nat.mod_eq_of_lt hj']]
        exact field_apply p a (fun y => t (64 * i + y)) (A j) bm (0 + 1 + 64 * i) Km _ _ hp gmX (by omega) (fun x hx => by rw [show 0 + 1 + 64 * i + x = 1 + (64 * i + x) by omega]; exact cm _ (by omega)) (fun x hx => ht _ (by omega)) hAb) ?_)
      refine FL.step (ST.bsl hEX rfl ?_)
      intro b2 hb2 hf2
      have hb72 : b7 < n2 := hb7n
      refine FL.step (ST.appV (I := ldl p t A m) (m := i * m + j) (b := b7) (b2 := b2) (w := ldl p t A m (i * m + j)) (fun b' k' hb' => ?_) (by exact rfl) (by exact rfl) (hV7.keep (by rw [Hp.get_ne _ _ (by omega), lX b7 (by omega)])) (Hp.get_eq _ _ _) rfl (fun q hq => by (try dsimp only); unfold splice; rw [if_pos (by omega), Nat.sub_zero]; rfl) (by omega) (by rw [Hp.get_ne _ _ (by omega)]; rfl) ?_)
      · have := hEX b' k' hb'
        rw [Hp.get_ne _ _ (fun q => by subst q; rw [hf2 _ (Nat.le_refl _)] at this; cases this)]; exact this
      intro v' b' H3 hV3 hb' hl3 hE3
      have hV3' : VL H3 v' (i * m + (j + 1)) (ldl p t A m) b' := hV3.same (fun k x hk hx => by
        unfold snc
        by_cases e : k = i * m + j
        · rw [if_pos e, e]
        · rw [if_neg e])
      refine FL.step (ST.mov (by exact rfl) ?_)
      refine FL.nil ?_
      intro n3 hn3 hlt3
      dsimp only [Ex.then, Ex.inBlock, putD, Env.put]
      (repeat first|refine zG ?_|(refine LS.nilO ?_;intro nq hnq hltq;try refine zU ?_)|(refine MS.new ?_;intro bq hbq hbqf;try refine zU ?_)|(refine MS.nil ?_;intro nq hnq hltq;have hlq:=hltq _ _ (Hp.get_eq _ _ _);clear hltq;try refine zU ?_)|(refine LS.nilQ ?_;try with_reducible intro nq hnq;try refine zU ?_))
      have hfr3 : ∀ x, n3 ≤ x → H3.get x = none := fun x hx => by
        cases e : H3.get x with
        | none => rfl
        | some k => exact absurd (hlt3 x k e) (by omega)
      have hbn3 := hV3.bound hfr3
      have hbge : n ≤ b' := by
        rcases hb' with q | ⟨q, _⟩ <;> omega
      exact ⟨m - (j + 1), [(21, i64 ((j + 1 : Nat) : Int)), (20, i64 (m : Nat)), (19, .s (.slc b o m cap)), (8, i64 (i : Nat)), (16, i64 (i : Nat)), (15, i64 (N : Nat)), (0, ptr bm 0), (1, ptr bh 0), (2, .s (.slc b o m cap)), (7, .s v')], H3, by omega, by (repeat first | exact trivial | refine And.intro rfl ?_), Drops.refl _ _, j + 1, v', b', by omega, rfl, rfl, hV3', hbge, hbn3, fun x hx => by rw [hl3 x (by omega), Hp.get_ne _ _ (by omega), lX x (by omega)]; exact hlow x hx, hfr3⟩
    · obtain rfl : m = j := by omega
      (repeat first|refine zG ?_|(refine LS.nilO ?_;intro nq hnq hltq;try refine zU ?_)|(refine MS.new ?_;intro bq hbq hbqf;try refine zU ?_)|(refine MS.nil ?_;intro nq hnq hltq;have hlq:=hltq _ _ (Hp.get_eq _ _ _);clear hltq;try refine zU ?_)|(refine LS.nilQ ?_;try with_reducible intro nq hnq;try refine zU ?_))
      exact ⟨N - (i + 1), [(16, i64 ((i + 1 : Nat) : Int)), (15, i64 (N : Nat)), (0, ptr bm 0), (1, ptr bh 0), (2, .s (.slc b o m cap)), (7, .s v7)], H2, by omega, by (repeat first | exact trivial | refine And.intro rfl ?_), Drops.refl _ _, i + 1, v7, b7, by omega, rfl, rfl, by rw [Nat.succ_mul]; exact hV7, hb7, hb7n, hlow, hfr⟩
  · obtain rfl : N = i := by omega
    (repeat first|refine zG ?_|(refine LS.nilO ?_;intro nq hnq hltq;try refine zU ?_)|(refine MS.new ?_;intro bq hbq hbqf;try refine zU ?_)|(refine MS.nil ?_;intro nq hnq hltq;have hlq:=hltq _ _ (Hp.get_eq _ _ _);clear hltq;try refine zU ?_)|(refine LS.nilQ ?_;try with_reducible intro nq hnq;try refine zU ?_))
    exact ⟨.s v7, H1, rfl, Drops.refl _ _, v7, b7, rfl, hV7, hb7, hb7n, hfr, hlow⟩

/-- (*impl.Module).isSubmodule -/
def ir34 : Cd := (.seq (.reg [⟨some 6,none,.mov (.c (.bool false))⟩]) (.seq (.drwo true [9] [0,1,2,3,4,5,6,7,8,9,10] [⟨some 7,none,.mov (.t 1)⟩,⟨some 8,none,.ck (.t 7)⟩,⟨some 9,none,.fa 0 (.t 8)⟩,⟨some 10,none,.ld none (.t 9)⟩,⟨some 11,none,.mov (.t 2)⟩,⟨some 12,none,.mov (.t 0)⟩,⟨some 13,none,.mov (.t 1)⟩,⟨some 14,none,.mov (.t 2)⟩,⟨some 15,none,.call 72 [(.t 12),(.t 13),(.t 14)]⟩,⟨some 16,none,.call 71 [(.t 10),(.t 11),(.t 15)]⟩,⟨some 6,none,.mov (.t 16)⟩]) .ret))

set_option maxRecDepth 100000 in
theorem tr34 : trFn Tryz.prog Tryz.f34 = some (17, ir34, [.tmp 6]) := by kernel_rfl

theorem Module_isSubmodule (p : Int) (a N m b bm bh : Nat) (t : Nat → Int) (A : Nat → Nat → Int) (sv : SV) (Km Kh : Blk) (H : Hp) (n : Nat) (hp : 2 ≤ p ∧ p ≤ 31) (ha : a ≤ 8) (hN : N ≤ 8) (hm : m ≤ 8) (gm : H.get bm = some Km) (sm : Km.size = 513) (km : Km.c 0 = .int .i64 (a : Nat)) (cm : ∀ q, q < 512 → Km.c (1 + q) = .int .u8 (t q)) (ht : isBy 512 t)
    (gh : H.get bh = some Kh) (sh : Kh.size = 1106) (kp : Kh.c 0 = .int .i64 p) (kn : Kh.c 1 = .int .i64 (N : Nat)) (hV : VL H sv m A b) (hA : ∀ i, i < m → isRes p 8 (A i)) (hlt : ∀ i, i < m → fsn (A i) 8 < 8) :
    FnS Tryz.prog 34 [ptr bm 0, ptr bh 0, .s sv] H n (fun r H' _ => r = bl (tb (∀ q, q < N * m → isIn p A m (ldl p t A m q))) ∧ H' = H) := by
  have hNm : N * m ≤ 8 * 8 := Nat.mul_le_mul hN hm
  refine FnS.of_body Tryz.func34 tr34 (by simp) (fun hf => ?_)
  dsimp only [argEnv]
  unfold ir34
  have hbm := getlt hf gm
  have hbh := getlt hf gh
  have hbb := hV.bound hf
  (repeat first|refine zG ?_|(refine LS.nilO ?_;intro nq hnq hltq;try refine zU ?_)|(refine MS.new ?_;intro bq hbq hbqf;try refine zU ?_)|(refine MS.nil ?_;intro nq hnq hltq;have hlq:=hltq _ _ (Hp.get_eq _ _ _);clear hltq;try refine zU ?_)|(refine LS.nilQ ?_;try with_reducible intro nq hnq;try refine zU ?_))
  refine CS.ordK H (Ext.refl _) ?_
  dsimp only [pick, List.filterMap_cons, List.getElem?_cons_zero, List.getElem?_cons_succ, List.filterMap_nil]
  refine FL.step (ST.mov (by exact rfl) ?_)
  refine FL.step (ST.ck (by exact rfl) ?_)
  refine FL.step (ST.fa (by exact rfl) ?_)
  refine FL.step (ST.ld1 (by exact rfl) gh (by omega) kp ?_)
  refine FL.step (ST.mov (by exact rfl) ?_)
  refine FL.step (ST.mov (by exact rfl) ?_)
  refine FL.step (ST.mov (by exact rfl) ?_)
  refine FL.step (ST.mov (by exact rfl) ?_)
  refine FL.step (ST.call (R := fun r H' => ∃ sv' b', r = .s sv' ∧ VL H' sv' (N * m) (ldl p t A m) b' ∧ ∀ x, x < n → H'.get x = H.get x) rfl (fun n' h1 h2 => (Module_led p a N m b bm bh t A sv Km Kh H n' hp ha hN hm gm sm km cm ht gh sh kp kn hV hA).mono (fun r H' _ _ q => by
    obtain ⟨sv', b', q1, q2, q3, q4, q5, q6⟩ := q
    exact ⟨⟨sv', b', q1, q2, fun x hx => q6 x (by omega)⟩, fun b k hb => by rw [q6 b (Nat.lt_of_lt_of_le (getlt hf hb) h1)]; exact hb⟩)) ?_)
  rintro r H2 ⟨lv, lb, rfl, hL, hlow⟩ hE
  refine FL.step (ST.callq (bl (tb (∀ q, q < N * m → isIn p A m (ldl p t A m q)))) hE rfl (fun n' h1 h2 => impl_within p A (ldl p t A m) m (N * m) b lb sv lv _ _ hp (by omega) (by omega) (hV.keep (hlow b hbb)) hL hA hlt (fun i hi _ _ => modB _ hp.1)) ?_)
  refine FL.step (ST.mov (by exact rfl) ?_)
  refine FL.nil ?_
  intro n3 hn3 hlt3
  dsimp only [Ex.then, Ex.inBlock, putD, Env.put]
  (repeat first|refine zG ?_|(refine LS.nilO ?_;intro nq hnq hltq;try refine zU ?_)|(refine MS.new ?_;intro bq hbq hbqf;try refine zU ?_)|(refine MS.nil ?_;intro nq hnq hltq;have hlq:=hltq _ _ (Hp.get_eq _ _ _);clear hltq;try refine zU ?_)|(refine LS.nilQ ?_;try with_reducible intro nq hnq;try refine zU ?_))
  exact ⟨_, H, rfl, Drops.low hf hlow, rfl, rfl⟩

end Go.Proofs.YtkmfdhicjaccaaaGreat
