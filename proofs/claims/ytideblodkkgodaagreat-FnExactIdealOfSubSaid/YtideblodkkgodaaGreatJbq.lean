/- Rests of vectors by a reduced list, on the program's side; lists within a space; what a module leads a list to. -/
import Derived.Test.YtideblodkkgodaaGreatJbo
import Derived.Test.YtideblodkkgodaaGreatJal
import Derived.Test.YtideblodkkgodaaGreatJbp
import Derived.Test.YtideblodkkgodaaGreatJam
set_option linter.unusedSectionVars false
set_option linter.unusedVariables false
set_option linter.unusedSimpArgs false

namespace Go.V

variable [BW]

set_option linter.unusedSimpArgs false

set_option linter.unusedVariables false

theorem mulN {k w : Int} (hk : -100000 ≤ k ∧ k ≤ 100000) (hw : 0 ≤ w ∧ w ≤ 255) : -25500000 ≤ k * w ∧ k * w ≤ 25500000 := by
  have h1 := Int.mul_le_mul_of_nonneg_right hk.2 hw.1
  have h2 := Int.mul_le_mul_of_nonneg_right hk.1 hw.1
  omega

theorem VL.lst {H : Hp} {v : SV} {m : Nat} {I : Nat → Nat → Int} {b : Nat} (h : VL H v m I b) : lst H v m (fun q => I (q / 8) (q % 8)) := by
  obtain ⟨o, cap, k, rfl, g, ho, hm, hc⟩ := h
  refine .inr ⟨b, o, cap, k, rfl, g, by omega, fun q hq => ?_⟩
  have := hc (q / 8) (q % 8) (by omega) (by omega)
  rwa [show q / 8 * 8 + q % 8 = q by omega] at this

theorem VL.row (I : Nat → Nat → Int) (i q : Nat) (hq : q < 8) : I ((i * 8 + q) / 8) ((i * 8 + q) % 8) = I i q := by
  rw [show (i * 8 + q) / 8 = i by omega, show (i * 8 + q) % 8 = q by omega]

/-- A vector lies in the space of a reduced list. -/
def isIn (p : Int) (A : Nat → Nat → Int) (m : Nat) (v : Nat → Int) : Prop := ∀ x, x < 8 → rdk p A v m x = 0

section

variable {P : Program} {N mm : Nat} {e : Env} {H F : Hp} {n : Nat} {d : Option Nat} {K : Env → Hp → Prop}

theorem ST.ia {x i : X} {len sz b o j : Nat} {k : IntKind} (hx : x.ev e = some (.s (.ptr b o))) (hi : i.ev e = some (.s (.int k (j : Nat)))) (hj : j < len) (h : K (putD d (.s (.ptr b (o + sz * j))) e) H) : ST P N mm ⟨d, none, .ia len sz x i⟩ e H F n K :=
  ST.pure (by simp only [PV, hx, hi]; exact ⟨⟨by omega, by omega⟩, by rw [Int.toNat_natCast, Nat.mul_comm]; exact h⟩)

theorem ST.ldn {x : X} {z b off : Nat} {k : Blk} {c : Nat → SV} (hx : x.ev e = some (.s (.ptr b off))) (hb : F.get b = some k) (ho : off + z ≤ k.size) (hc : (fun j => k.c (off + j)) = c) (h : K (putD d (.arr z c) e) H) : ST P N mm ⟨d, none, .ld (some z) x⟩ e H F n K :=
  ST.pure (by simp only [PV, hx, hb, ldV]; exact ⟨ho, by rw [hc]; exact h⟩)

/-- A call that leaves the memory. -/
theorem ST.callq {f : FuncId} {args : List X} {vs : List AV} (v : AV) (hE : Ext F H) (hv : evs e args = some vs) (hf : ∀ n', n ≤ n' → (∀ x, n' ≤ x → H.get x = none) → FnS P f vs H n' fun r H' _ => r = v ∧ H' = H) (h : K (putD d v e) H) : ST P N mm ⟨d, none, .call f args⟩ e H F n K :=
  ST.call (R := fun r H' => r = v ∧ H' = H) hv (fun n' h1 h2 => (hf n' h1 h2).mono fun r H' _ _ q => ⟨q, by rw [q.2]; exact hE⟩) (by rintro r H' ⟨rfl, rfl⟩ _; exact h)

/-- One more vector in a list. -/
theorem ST.appV {t : TypeId} {x y : X} {v : SV} {m b b2 : Nat} {I : Nat → Nat → Int} {w : Nat → Int} {k2 : Blk} {z : Zs} (hE : Ext F H)
    (hx : x.ev e = some (.s v)) (hy : y.ev e = some (.s (.slc b2 0 1 1))) (hV : VL H v m I b) (hb2 : H.get b2 = some k2) (hs2 : k2.size = 8) (hc2 : ∀ q, q < 8 → k2.c q = .int .u8 (w q)) (hm : m ≤ 4000000) (hF : F.get b = none)
    (h : ∀ v' b' H', VL H' v' (m + 1) (snc I m w) b' → (b' = b ∨ n ≤ b' ∧ H.get b' = none) → (∀ x, x ≠ b' → H'.get x = H.get x) → Ext F H' → K (putD d (.s v') e) H') : ST P N mm ⟨d, none, .app t 8 8 z x y⟩ e H F n K := by
  refine ST.run rfl ?_
  intro n' q1 hfr o h1 w0 w1 a q3 hag
  obtain ⟨o1, cap, k1, rfl, hk1, ho, hmc, hc⟩ := hV
  refine run_app (K := fun e' H' _ => Ext F H' ∧ K e' H') (len2 := 1) (cap2 := 1) (c := fun i => .int .u8 (I (i / 8) (i % 8))) (c2 := fun i => .int .u8 (w i)) hx hy (.inr ⟨b, o1, k1, rfl, hk1, ho, hmc, fun i hi => ?_⟩) (.inr ⟨b2, 0, k2, rfl, hb2, by omega, Nat.le_refl _, fun i hi => by rw [Nat.zero_add]; exact hc2 i (by omega)⟩) (by omega) (by omega) (fun hle => ⟨fun b' o' k' hee hk' => ?_, fun hee => by cases hee⟩) (fun hlt cap' hcap => ?_) o h1 w0 w1 a q3 hag
  · show _ = SV.int IntKind.u8 (I (i / 8) (i % 8))
    rw [← hc (i / 8) (i % 8) (by omega) (by omega), show i / 8 * 8 + i % 8 = i by omega]
  · cases hee
    rw [hk1] at hk'
    cases hk'
    refine ⟨hE.setF _ hF, h _ b _ ⟨o1, cap, _, rfl, Hp.get_set_self _ hk1, ho, hle, fun i x hi hx => ?_⟩ (.inl rfl) (fun x hx => Hp.get_set_other _ (fun q => hx q.symm)) (hE.setF _ hF)⟩
    (try dsimp only)
    unfold splice snc
    by_cases e1 : i = m
    · subst e1
      rw [if_pos (by omega), if_pos rfl]
      congr 2; omega
    · rw [if_neg (by omega), if_neg e1]
      exact hc i x (by omega) hx
  · have hE2 : ∀ blk, Ext F ((n', blk) :: H) := fun blk b' k' hb' => by
      have hne : n' ≠ b' := by intro e1; subst e1; have := hE _ _ hb'; rw [hfr _ (Nat.le_refl _)] at this; cases this
      rw [Hp.get_ne _ _ hne]; exact hE b' k' hb'
    refine ⟨hE2 _, h _ n' _ ⟨0, cap', _, rfl, Hp.get_eq _ _ _, by (try dsimp only); omega, hcap, fun i x hi hx => ?_⟩ (.inr ⟨q1, hfr _ (Nat.le_refl _)⟩) (fun x hx => Hp.get_ne _ _ (fun q => hx q.symm)) (hE2 _)⟩
    (try dsimp only)
    unfold joinC snc
    rw [Nat.zero_add]
    by_cases e1 : i = m
    · subst e1
      rw [if_pos (by omega), if_neg (by omega), if_pos rfl]
      congr 2; omega
    · rw [if_pos (by omega), if_pos (by omega), if_neg e1]
      show SV.int IntKind.u8 (I ((i * 8 + x) / 8) ((i * 8 + x) % 8)) = _
      rw [show (i * 8 + x) / 8 = i by omega, show (i * 8 + x) % 8 = x by omega]

end

end Go.V

namespace Go.Proofs.YtideblodkkgodaaGreat

open Go.V

variable [BW]

set_option linter.unusedSimpArgs false

set_option linter.unusedVariables false

set_option maxHeartbeats 4000000

theorem field_plusZ (p n' k : Int) (v w : Nat → Int) (b o : Nat) (K : Blk) (H : Hp) (n : Nat) (hp : 2 ≤ p ∧ p ≤ 31) (hb : H.get b = some K) (ho : o + 8 ≤ K.size)
    (hc : ∀ i, i < 8 → K.c (o + i) = .int .u8 (v i)) (hv : isRes p 8 v) (hw : isBy 8 w) (hk : -100000 ≤ k ∧ k ≤ 100000) :
    FnS Tryz.prog 30 [fld p n', ptr b o, i64 k, .arr 8 (bys w)] H n (fun r H' _ => r = .tup [] ∧ H' = H.set b (splice K.c o 8 (bys (pl p v k w)))) := by
  refine FnS.of_body Tryz.func30 tr30 (by simp) (fun hf => ?_)
  dsimp only [argEnv]
  unfold ir30
  have hbn := getlt hf hb
  (refine zG ?_)
  refine zI ?_ ?_<;>intro h1
  · (refine zG ?_)
    subst h1
    refine ⟨.tup [], H.set b (splice K.c o 8 (bys (pl p v 0 w))), rfl, ?_, rfl, rfl⟩
    have hd : Drops n H (H.set b (splice K.c o 8 (bys (pl p v 0 w)))) := by
      have := Drops.setc (m := n) (c := K.c) (c1 := splice K.c o 8 (bys (pl p v 0 w))) hb (fun q hq => by
        unfold splice
        by_cases e : o ≤ q ∧ q < o + 8
        · rw [if_pos e]
          have := hc (q - o) (by omega)
          rw [show o + (q - o) = q by omega] at this
          rw [this]
          exact congrArg (SV.int .u8) (pl_zero w hv (by omega)).symm
        · rw [if_neg e])
      rwa [Hp.set_self hb] at this
    exact Drops.drop (by omega) (Hp.get_set_none _ (hf _ (by omega))) (Drops.drop (by omega) (Hp.get_set_none _ (hf _ (by omega))) hd)
  · (refine zG ?_)
    refine CS.iter 8 (fun i => [(13, i64 i), (12, .arr 8 (bys w)), (1, ptr b o), (2, i64 k), (4, ptr n 0)])
      (fun i => (n + 1, ⟨8, bys w, 32⟩) :: (n, ⟨2, fldC p n', 62⟩) :: H.set b (splice K.c o i (bys (pl p v k w)))) (fun _ => True) (by (repeat first | exact trivial | refine And.intro rfl ?_))
      (by rw [splice_zero, Hp.set_self hb]; exact Drops.refl _ _) trivial ?_
    intro i n1 hi hn _
    (refine zG ?_)
    refine zI ?_ ?_<;>intro h2
    · have hvi := hv i (by omega)
      have hwi := hw i (by omega)
      have hm := mulN hk hwi
      have hplb : 0 ≤ pl p v k w i ∧ pl p v k w i < p := modB _ hp.1
      have hst : ∀ q, q < 8 → splice K.c o i (bys (pl p v k w)) (o + q) = .int .u8 (prt (pl p v k w) v i q) := fun q hq => by
        unfold splice prt
        by_cases e : q < i
        · rw [if_pos (by omega), if_pos e, Nat.add_sub_cancel_left]; rfl
        · rw [if_neg (by omega), if_neg e]; exact hc q hq
      have hpi := prt_at (pl p v k w) v i
      have hpl : (prt (pl p v k w) v i i + k * w i) % p = pl p v k w i := by rw [hpi]; rfl
      (refine zG ?_)
      refine LS.callQ (u8 (pl p v k w i)) rfl (fun q hq => FnS.args ?_ ((field_mod p n' (prt (pl p v k w) v i i + k * w i) _ _ hp.1 hp.2 (by omega)).mono (fun r H' _ _ h => by rw [hpl] at h; exact h))) ?_
      · exact concs_cons (conc_arr (fldC_of rfl rfl)) rfl
      (repeat first|refine zG ?_|(refine LS.nilQ ?_;try with_reducible intro nq hnq;try refine zU ?_))
      refine ⟨by omega, by (repeat first | exact trivial | refine And.intro rfl ?_), Drops.keepc rfl rfl (fun _ _ => rfl) (Drops.keepc rfl rfl (fun _ _ => rfl) (Drops.setc hb (fun q hq => congrFun (splice_put K.c (bys (pl p v k w)) o i) q))), trivial⟩
    · have : i = 8 := by omega
      subst this
      (refine zG ?_)
      try simp only [↓reduceIte]
      (repeat first|refine zG ?_|(refine LS.nilO ?_;intro nq hnq hltq;try refine zU ?_)|(refine MS.new ?_;intro bq hbq hbqf;try refine zU ?_)|(refine MS.nil ?_;intro nq hnq hltq;have hlq:=hltq _ _ (Hp.get_eq _ _ _);clear hltq;try refine zU ?_)|(refine LS.nilQ ?_;try with_reducible intro nq hnq;try refine zU ?_))
      exact ⟨.tup [], H.set b (splice K.c o 8 (bys (pl p v k w))), rfl, Drops.drop (by omega) (Hp.get_set_none _ (hf _ (by omega))) (Drops.drop (by omega) (Hp.get_set_none _ (hf _ (by omega))) (Drops.refl _ _)), rfl, rfl⟩

/-- impl.lead$1 -/
def ir143 : Cd := (.seq (.reg [⟨some 2,none,.mov (.c (.bool false))⟩]) (.seq (.reg [⟨some 3,none,.mov (.t 0)⟩,⟨some 4,none,.bin .neq (.t 3) (.c (.int .u8 0))⟩,⟨some 2,none,.mov (.t 4)⟩]) .ret))

set_option maxRecDepth 100000 in
theorem tr143 : trFn Tryz.prog Tryz.f143 = some (5, ir143, [.tmp 2]) := by kernel_rfl

theorem impl_lead_1 (x : Int) (H : Hp) (n : Nat) (hx : 0 ≤ x ∧ x ≤ 255) :
    FnS Tryz.prog 143 [u8 x] H n (fun r H' _ => r = bl (tb (x ≠ 0)) ∧ H' = H) := by
  refine FnS.of_body Tryz.func143 tr143 (by simp) (fun hf => ?_)
  dsimp only [argEnv]
  unfold ir143
  (refine zG ?_)
  exact ⟨_, H, rfl, by exact zD, by rw [tb_dec]; simp [bne, BEq.beq], rfl⟩

/-- slices.IndexFunc[[]byte,byte] -/
def ir142 : Cd := (.seq (.reg [⟨some 4,none,.mov (.c (.int .i64 0))⟩]) (.seq (.seq (.reg [⟨some 6,none,.mov (.t 0)⟩,⟨some 7,none,.len (.t 6)⟩,⟨some 8,none,.mov (.c (.int .i64 0))⟩]) (.block 0 (.loop (.seq (.reg [⟨some 9,none,.bin .lss (.t 8) (.t 7)⟩]) (.seq (.cond (.t 9) .skip (.exit 0)) (.seq (.block 1 (.seq (.reg [⟨some 10,none,.mov (.t 8)⟩,⟨some 5,none,.mov (.t 10)⟩]) (.seq (.reg [⟨some 11,none,.mov (.t 1)⟩,⟨some 12,none,.mov (.t 0)⟩,⟨some 13,none,.mov (.t 5)⟩,⟨some 14,none,.isl 1 (.t 12) (.t 13)⟩,⟨some 15,none,.ld none (.t 14)⟩,⟨some 16,none,.callv (.t 11) [(.t 15)]⟩]) (.cond (.t 16) (.seq (.reg [⟨some 17,none,.mov (.t 5)⟩,⟨some 4,none,.mov (.t 17)⟩]) .ret) .skip)))) (.reg [⟨some 18,none,.bin .add (.t 8) (.c (.int .i64 1))⟩,⟨some 8,none,.mov (.t 18)⟩]))))))) (.seq (.reg [⟨some 4,none,.mov (.c (.int .i64 (-1)))⟩]) .ret)))

set_option maxRecDepth 100000 in
theorem tr142 : trFn Tryz.prog Tryz.f142 = some (19, ir142, [.tmp 4]) := by kernel_rfl

theorem slices_IndexFuncB (w : Nat → Int) (b : Nat) (K : Blk) (H : Hp) (n : Nat) (hb : H.get b = some K) (hs : K.size = 8) (hc : ∀ q, q < 8 → K.c (0 + q) = .int .u8 (w q)) (hw : isBy 8 w) (hq : fsn w 8 < 8) :
    FnS Tryz.prog 142 [.s (.slc b 0 8 8), .s (.fn 143 [] [])] H n (fun r H' _ => r = i64 (fsn w 8 : Nat) ∧ H' = H) := by
  refine FnS.of_body Tryz.func142 tr142 (by simp) (fun hf => ?_)
  dsimp only [argEnv]
  unfold ir142
  have hbn := getlt hf hb
  (refine zG ?_)
  refine CS.iter 8 (fun i => [(8, i64 (i : Nat)), (7, i64 8), (0, .s (.slc b 0 8 8)), (1, .s (.fn 143 [] []))]) (fun _ => H) (fun i => ∀ i', i' < i → w i' = 0) (by (repeat first | exact trivial | refine And.intro rfl ?_)) (Drops.refl _ _) (fun _ h => by omega) ?_
  intro i n1 hi hn hJ
  (refine zG ?_)
  refine zI ?_ ?_<;>intro h1
  · have hci := hc i (by omega)
    rw [show 0 + i = 0 + i * 1 by omega] at hci
    have hwi := hw i (by omega)
    (refine zG ?_)
    refine RS.callv (f := 143) (pre := []) (post := []) (vs := [u8 (w i)]) (by exact rfl) (by exact rfl) ?_
    refine FnS.mono (impl_lead_1 (w i) _ _ hwi) ?_
    rintro r H n2 hn2 ⟨rfl, rfl⟩
    (refine zG ?_)
    refine zI ?_ ?_<;>intro h2
    · (refine zG ?_)
      exact ⟨_, H, rfl, by exact zD, by rw [fsn_eq (show i < 8 by omega) hJ h2], rfl⟩
    · (refine zG ?_)
      refine ⟨by omega, by (repeat first | exact trivial | refine And.intro rfl ?_), Drops.refl _ _, fun i' hi' => ?_⟩
      by_cases e : i' = i
      · subst e; exact Classical.not_not.1 h2
      · exact hJ i' (by omega)
  · obtain rfl : i = 8 := by omega
    exact absurd (hJ (fsn w 8) hq) (fsn_hit w 8 hq)

/-- impl.lead -/
def ir129 : Cd := (.seq (.reg [⟨some 1,none,.box 32 (.t 0)⟩,⟨some 2,none,.mov (.c (.int .i64 0))⟩]) (.seq (.reg [⟨some 3,none,.sla 8 1 (.t 1) none none none⟩,⟨some 4,none,.call 142 [(.t 3),(.c (.fn 143 [] []))]⟩,⟨some 2,none,.mov (.t 4)⟩]) .ret))

set_option maxRecDepth 100000 in
theorem tr129 : trFn Tryz.prog Tryz.f129 = some (5, ir129, [.tmp 2]) := by kernel_rfl

theorem impl_lead (w : Nat → Int) (H : Hp) (n : Nat) (hw : isBy 8 w) (hq : fsn w 8 < 8) :
    FnS Tryz.prog 129 [.arr 8 (bys w)] H n (fun r H' _ => r = i64 (fsn w 8 : Nat) ∧ H' = H) := by
  refine FnS.of_body Tryz.func129 tr129 (by simp) (fun hf => ?_)
  dsimp only [argEnv]
  unfold ir129
  (refine zG ?_)
  refine RS.call rfl ((slices_IndexFuncB w n _ _ _ (by exact zH) rfl (fun q hq => by rw [Nat.zero_add]; rfl) hw hq).mono ?_)
  rintro r H' n2 hn2 ⟨rfl, rfl⟩
  (refine zG ?_)
  exact ⟨_, H, rfl, by exact zD, rfl, rfl⟩

/-- (impl.field).rest -/
def ir107 : Cd := (.seq (.reg [⟨some 3,none,.box 62 (.t 0)⟩,⟨some 5,none,.box 32 (.t 2)⟩,⟨some 6,none,.new 32 [(8,(.int .u8 0))]⟩]) (.seq (.seq (.reg [⟨some 9,none,.mov (.t 1)⟩,⟨some 10,none,.len (.t 9)⟩,⟨some 11,none,.mov (.c (.int .i64 0))⟩]) (.block 0 (.loop (.seq (.reg [⟨some 12,none,.bin .lss (.t 11) (.t 10)⟩]) (.seq (.cond (.t 12) .skip (.exit 0)) (.seq (.block 1 (.seq (.reg [⟨some 13,none,.isl 8 (.t 9) (.t 11)⟩,⟨some 14,none,.ld (some 8) (.t 13)⟩,⟨some 8,none,.new 32 [(8,(.int .u8 0))]⟩,⟨none,none,.st 8 (.t 8) (.t 14)⟩]) (.drw true [8] [⟨some 15,none,.ld (some 2) (.t 3)⟩,⟨some 16,none,.ld (some 8) (.t 8)⟩,⟨some 17,none,.call 129 [(.t 16)]⟩,⟨some 18,none,.ia 8 1 (.t 5) (.t 17)⟩,⟨some 19,none,.ld none (.t 18)⟩,⟨some 20,none,.cv .i64 (.t 19)⟩,⟨some 21,none,.un .neg (.t 20)⟩,⟨some 22,none,.ld (some 8) (.t 8)⟩,⟨some 23,none,.call 30 [(.t 15),(.t 5),(.t 21),(.t 22)]⟩]))) (.reg [⟨some 24,none,.bin .add (.t 11) (.c (.int .i64 1))⟩,⟨some 11,none,.mov (.t 24)⟩]))))))) (.seq (.reg [⟨some 25,none,.ld (some 8) (.t 5)⟩,⟨none,none,.st 8 (.t 6) (.t 25)⟩]) .ret)))

set_option maxRecDepth 100000 in
theorem tr107 : trFn Tryz.prog Tryz.f107 = some (26, ir107, [.cell (some 8) 6]) := by kernel_rfl

theorem field_rest (p n' : Int) (A : Nat → Nat → Int) (m b : Nat) (sv : SV) (v : Nat → Int) (H : Hp) (n : Nat) (hp : 2 ≤ p ∧ p ≤ 31) (hm : m ≤ 4000000) (hV : VL H sv m A b) (hA : ∀ i, i < m → isRes p 8 (A i)) (hlt : ∀ i, i < m → fsn (A i) 8 < 8) (hv : isRes p 8 v) :
    FnS Tryz.prog 107 [fld p n', .s sv, .arr 8 (bys v)] H n (fun r H' _ => r = .arr 8 (bys (rdk p A v m)) ∧ H' = H) := by
  obtain ⟨o, cap, K, rfl, gb, ho, hmc, hc⟩ := hV
  refine FnS.of_body Tryz.func107 tr107 (by simp) (fun hf => ?_)
  dsimp only [argEnv]
  unfold ir107
  have hbn := getlt hf gb
  (refine zG ?_)
  refine CS.iter m (fun i => [(11, i64 (i : Nat)), (10, i64 (m : Nat)), (9, .s (.slc b o m cap)), (3, ptr n 0), (5, ptr (n + 1) 0), (6, ptr (n + 2) 0)])
    (fun i => (n + 2, ⟨8, fun _ => .int .u8 0, 32⟩) :: (n + 1, ⟨8, bys (rdk p A v i), 32⟩) :: (n, ⟨2, fldC p n', 62⟩) :: H) (fun _ => True) (by (repeat first | exact trivial | refine And.intro rfl ?_))
    (Drops.keepc rfl rfl (fun q hq => ?_) (Drops.keepc rfl rfl (fun _ _ => rfl) (Drops.refl _ _))) trivial ?_
  · rcases (show q = 0 ∨ q = 1 ∨ q = 2 ∨ q = 3 ∨ q = 4 ∨ q = 5 ∨ q = 6 ∨ q = 7 by (simp only [Zs.size] at hq; omega)) with rfl | rfl | rfl | rfl | rfl | rfl | rfl | rfl <;> rfl
  intro i n1 hi hn _
  (refine zG ?_)
  refine zI ?_ ?_<;>intro h1
  · have hi' : i < m := by omega
    have e9 : ∀ q, q < 8 → K.c (o + i * 8 + q) = .int .u8 (A i q) := fun q hq => by rw [Nat.add_assoc]; exact hc i q hi' hq
    have hAb : isBy 8 (A i) := isRes.by (hA i hi') hp.2
    have hl := hlt i hi'
    have hrk : isRes p 8 (rdk p A v i) := rdk_res hp.1 hv i
    have hrt := hrk (fsn (A i) 8) hl
    have hr1 : (bys (rdk p A v i)) (fsn (A i) 8) = .int .u8 (rdk p A v i (fsn (A i) 8)) := rfl
    (refine zG ?_)
    refine LS.callQ (i64 (fsn (A i) 8 : Nat)) rfl (fun n' hn' => impl_lead (A i) _ _ hAb hl) ?_
    (refine zG ?_)
    refine RS.neg64 (by exact rfl) (by omega) ?_
    (repeat first|refine zG ?_|(refine LS.nilQ ?_;try with_reducible intro nq hnq;try refine zU ?_))
    refine RS.call rfl ((field_plusZ p n' (-(rdk p A v i (fsn (A i) 8))) (rdk p A v i) (A i) (n + 1) 0 _ _ _ hp (by exact zH) (by simp) (fun _ _ => by rw [Nat.zero_add]; rfl) hrk hAb (by omega)).mono ?_)
    rintro r H' n4 hn4 ⟨rfl, rfl⟩
    simp (disch := omega) only [Hp.set_eq, Hp.set_ne]
    (refine zG ?_)
    exact ⟨by omega, by (repeat first | exact trivial | refine And.intro rfl ?_), Drops.drop (by omega) (by simp (disch := omega) only [Hp.get_ne]; exact hf _ (by omega)) (Drops.keepc rfl rfl (fun _ _ => rfl) (Drops.keepc rfl rfl (fun q hq => (splice_all _ _ 8 q hq).trans (by rw [rdk_succ])) (Drops.refl _ _))), trivial⟩
  · obtain rfl : i = m := by omega
    (refine zG ?_)
    exact ⟨.arr 8 (bys (rdk p A v i)), H, conc_arr (fun q hq => by first | rfl | (simp only [Nat.zero_add]; done) | (simp only [Nat.zero_add]; rfl)), by exact zD, rfl, rfl⟩

/-- impl.within$1 -/
def ir106 : Cd := (.seq (.reg [⟨some 3,none,.box 32 (.t 0)⟩,⟨some 4,none,.mov (.c (.bool false))⟩]) (.seq (.reg [⟨some 5,none,.ld (some 2) (.t 1)⟩,⟨some 6,none,.ld none (.t 2)⟩,⟨some 7,none,.ld (some 8) (.t 3)⟩,⟨some 8,none,.call 107 [(.t 5),(.t 6),(.t 7)]⟩,⟨some 9,none,.build 8 [(8,(.int .u8 0))] []⟩,⟨some 10,none,.eqa true 8 (.t 8) (.t 9)⟩,⟨some 4,none,.mov (.t 10)⟩]) .ret))

set_option maxRecDepth 100000 in
theorem tr106 : trFn Tryz.prog Tryz.f106 = some (11, ir106, [.tmp 4]) := by kernel_rfl

theorem impl_within_1 (p : Int) (A : Nat → Nat → Int) (m b fb sb : Nat) (sv : SV) (w : Nat → Int) (Kf Ks : Blk) (H : Hp) (n : Nat) (hp : 2 ≤ p ∧ p ≤ 31) (hm : m ≤ 4000000) (hV : VL H sv m A b) (hA : ∀ i, i < m → isRes p 8 (A i)) (hlt : ∀ i, i < m → fsn (A i) 8 < 8) (hw : isRes p 8 w)
    (gf : H.get fb = some Kf) (sf : Kf.size = 2) (f0 : Kf.c 0 = .int .i64 p) (f1 : Kf.c 1 = .int .i64 8) (gs : H.get sb = some Ks) (ss : Ks.size = 1) (s0 : Ks.c 0 = sv) :
    FnS Tryz.prog 106 [.arr 8 (bys w), ptr fb 0, ptr sb 0] H n (fun r H' _ => r = bl (tb (¬isIn p A m w)) ∧ H' = H) := by
  have hfld : ∀ q, q < 2 → Kf.c (0 + q) = fldC p 8 q := fun q hq => by
    rcases (show q = 0 ∨ q = 1 by omega) with rfl | rfl
    · exact f0
    · exact f1
  refine FnS.of_body Tryz.func106 tr106 (by simp) (fun hf => ?_)
  dsimp only [argEnv]
  unfold ir106
  have h1 := getlt hf gf
  have h2 := getlt hf gs
  have h3 := hV.bound hf
  (refine zG ?_)
  refine RS.call rfl ((FnS.args (concs_cons (conc_arr hfld) rfl) (field_rest p 8 A m b sv w _ _ hp hm (hV.keep (Hp.get_ne _ _ (by omega))) hA hlt hw)).mono ?_)
  rintro r H' n2 hn2 ⟨rfl, rfl⟩
  (refine zG ?_)
  exact ⟨_, H, rfl, by exact zD, by rw [tb_not]; rfl, rfl⟩

/-- impl.within -/
def ir71 : Cd := (.seq (.reg [⟨some 4,none,.box 29 (.t 1)⟩,⟨some 6,none,.mov (.c (.bool false))⟩]) (.seq (.reg [⟨some 8,none,.mov (.t 0)⟩,⟨some 9,none,.build 2 [(2,(.int .i64 0))] [(0,1,(.t 8)),(1,1,(.c (.int .i64 8)))]⟩,⟨some 7,none,.new 62 [(2,(.int .i64 0))]⟩,⟨none,none,.st 2 (.t 7) (.t 9)⟩]) (.seq (.reg [⟨some 10,none,.mov (.t 2)⟩,⟨some 11,none,.mkf 106 [] [(.t 7),(.t 4)]⟩,⟨some 12,none,.call 64 [(.t 10),(.t 11)]⟩,⟨some 13,none,.un .not (.t 12)⟩,⟨some 6,none,.mov (.t 13)⟩]) .ret)))

set_option maxRecDepth 100000 in
theorem tr71 : trFn Tryz.prog Tryz.f71 = some (14, ir71, [.tmp 6]) := by kernel_rfl

theorem impl_within (p : Int) (A L : Nat → Nat → Int) (m k b lb : Nat) (sv lv : SV) (H : Hp) (n : Nat) (hp : 2 ≤ p ∧ p ≤ 31) (hm : m ≤ 4000000) (hk : k ≤ 4000000) (hV : VL H sv m A b) (hL : VL H lv k L lb) (hA : ∀ i, i < m → isRes p 8 (A i)) (hlt : ∀ i, i < m → fsn (A i) 8 < 8) (hLr : ∀ i, i < k → isRes p 8 (L i)) :
    FnS Tryz.prog 71 [i64 p, .s sv, .s lv] H n (fun r H' _ => r = bl (tb (∀ i, i < k → isIn p A m (L i))) ∧ H' = H) := by
  refine FnS.of_body Tryz.func71 tr71 (by simp) (fun hf => ?_)
  dsimp only [argEnv]
  unfold ir71
  have h1 := hV.bound hf
  have h2 := hL.bound hf
  (refine zG ?_)
  refine RS.call rfl ((slices_ContainsFunc (fun i => ¬isIn p A m (L i)) 106 [.ptr (n + 1) 0, .ptr n 0] lv k hk (fun q => L (q / 8) (q % 8)) _ _ ((hL.keep (by simp (disch := omega) only [Hp.get_ne])).lst) (fun i n' hi hn' =>
    FnS.args (concs_cons (conc_arr (fun q hq => by show SV.int .u8 (L ((i * 8 + q) / 8) ((i * 8 + q) % 8)) = _; rw [VL.row L i q hq]; rfl)) rfl) (impl_within_1 p A m b (n + 1) n sv (L i) _ _ _ _ hp hm (hV.keep (by simp (disch := omega) only [Hp.get_ne])) hA hlt (hLr i hi) (by exact zH) rfl rfl rfl (by exact zH) rfl rfl))).mono ?_)
  rintro r H' n2 hn2 ⟨rfl, rfl⟩
  (refine zG ?_)
  refine ⟨_, H, rfl, by exact zD, ?_, rfl⟩
  rw [tb_not]
  exact congrArg bl (tb_iff ⟨fun q i hi => Classical.byContradiction fun h1 => q ⟨i, hi, h1⟩, fun q ⟨i, hi, h1⟩ => h1 (q i hi)⟩)

end Go.Proofs.YtideblodkkgodaaGreat

/- Quotients of modules on the program's side: picked entries, codes of vectors, the quotient. -/

namespace Go.V

set_option linter.unusedSimpArgs false

set_option linter.unusedVariables false

/-- A list of vectors, or no list. -/
def VN (H : Hp) (v : SV) (m : Nat) (I : Nat → Nat → Int) (b : Nat) : Prop := (v = .nils ∧ m = 0) ∨ VL H v m I b

theorem VN.keep {H H' : Hp} {v : SV} {m : Nat} {I : Nat → Nat → Int} {b : Nat} (h : VN H v m I b) (hg : H'.get b = H.get b) : VN H' v m I b := by
  rcases h with h | h
  · exact .inl h
  · exact .inr (h.keep hg)

theorem VN.lst {H : Hp} {v : SV} {m : Nat} {I : Nat → Nat → Int} {b : Nat} (h : VN H v m I b) : lst H v m (fun q => I (q / 8) (q % 8)) := by
  rcases h with ⟨rfl, rfl⟩ | h
  · exact .inl ⟨rfl, rfl⟩
  · exact VL.lst h

end Go.V

namespace Go.Proofs.YtideblodkkgodaaGreat

open Go.V

variable [BW]

set_option linter.unusedSimpArgs false

set_option linter.unusedVariables false

set_option maxHeartbeats 4000000

end Go.Proofs.YtideblodkkgodaaGreat

/- Quotients of modules, the program's. -/

namespace Go.V

variable [BW]

set_option linter.unusedSimpArgs false

set_option linter.unusedVariables false

open Classical in

/-- The reduced list of the space of a list. -/
noncomputable def rdA (p : Int) (L : Nat → Nat → Int) (k : Nat) : (Nat → Nat → Int) × Nat × (Nat → Nat) :=
  if h : ∃ x : (Nat → Nat → Int) × Nat × (Nat → Nat), RR p x.1 x.2.1 x.2.2 ∧ Go.V.same p x.1 x.2.1 L k then Classical.choose h else (fun _ _ => 0, 0, fun _ => 0)

theorem rdA_is {p : Int} {L A : Nat → Nat → Int} {k m : Nat} {P : Nat → Nat} (hp : 2 ≤ p) (hRR : RR p A m P) (hs : Go.V.same p A m L k) :
    ∃ A1 P1, rdA p L k = (A1, m, P1) ∧ RR p A1 m P1 ∧ Go.V.same p A1 m L k ∧ ∀ i x, i < m → x < 8 → A i x = A1 i x := by
  have h : ∃ x : (Nat → Nat → Int) × Nat × (Nat → Nat), RR p x.1 x.2.1 x.2.2 ∧ Go.V.same p x.1 x.2.1 L k := ⟨(A, m, P), hRR, hs⟩
  have hc := Classical.choose_spec h
  have e : rdA p L k = Classical.choose h := by unfold rdA; rw [dif_pos h]
  rw [e]
  generalize Classical.choose h = x at hc
  obtain ⟨A1, m1, P1⟩ := x
  obtain ⟨h1, h2⟩ := hc
  obtain ⟨rfl, e1⟩ := hRR.same hp h1 (same_trans hs (same_symm h2))
  exact ⟨A1, P1, rfl, h1, h2, fun i x hi hx => (e1 i hi).2 x hx⟩

/-- 1 if Q does not hold, else 5 if R does not. -/
noncomputable def k5 (Q R : Prop) : Int := if tb Q = true then if tb R = true then 0 else 5 else 1

theorem k5_1 {Q R : Prop} (h : ¬Q) : k5 Q R = 1 := by unfold k5; rw [tb_false h]; rfl

theorem k5_5 {Q R : Prop} (h : Q) (g : ¬R) : k5 Q R = 5 := by unfold k5; rw [tb_true h, tb_false g]; rfl

theorem k5_0 {Q R : Prop} (h : Q) (g : R) : k5 Q R = 0 := by unfold k5; rw [tb_true h, tb_true g]; rfl

theorem Ext.push {F H : Hp} {b : Nat} (k : Blk) (hE : Ext F H) (hb : H.get b = none) : Ext F ((b, k) :: H) := fun b' k' h => by
  have := hE b' k' h
  rw [Hp.get_ne _ _ (fun q => by subst q; rw [hb] at this; cases this)]; exact this

section

variable {P : Program}

theorem FT.mono {N m : Nat} {ll : List Ins} {t : OT} {e : Env} {H F : Hp} {n : Nat} {K K2 : Env → Hp → Prop} (h : FT P N m ll t e H F n K) (hK : ∀ e' H', K e' H' → K2 e' H') : FT P N m ll t e H F n K2 :=
  ⟨fun ops eff hl hb a Ka hag hE hk => h.h ops eff hl hb a Ka hag hE fun e' a' H' q1 q2 q3 => hk e' a' H' (hK e' H' q1) q2 q3⟩

end

end Go.V

namespace Go.Proofs.YtideblodkkgodaaGreat

open Go.V

variable [BW]

set_option linter.unusedSimpArgs false

set_option linter.unusedVariables false

set_option maxHeartbeats 4000000

theorem impl_reduced_nil (p : Int) (A : Nat → Nat → Int) (H : Hp) (n : Nat) (hp : isP p = true) :
    FnS Tryz.prog 50 [i64 p, .s .nils] H n (fun r H' n' => ∃ sv' A' d' P' b', r = .s sv' ∧ VL H' sv' d' A' b' ∧ RR p A' d' P' ∧ same p A' d' A 0 ∧ n ≤ b' ∧ b' < n' ∧ (∀ x, n' ≤ x → H'.get x = none) ∧ ∀ x, x < n → H'.get x = H.get x) := by
  have hb := isP_le hp
  have hA : ∀ i, i < 0 → isRes p 8 (A i) := fun i hi => absurd hi (by omega)
  refine FnS.of_body Tryz.func50 tr50 (by simp) (fun hf => ?_)
  dsimp only [argEnv]
  unfold ir50
  (refine zG ?_)
  refine RS.call rfl ((impl_newSystem p 8 _ _).mono ?_)
  rintro r H' n1 hn1 ⟨rfl, hn1', ks0, rfl, k5, k0, k1, k2, k3, k4⟩
  (refine zG ?_)
  refine CS.iterJ 0 (fun i => [(15, i64 (i : Nat)), (14, i64 ((0 : Nat) : Int)), (13, .s .nils), (5, ptr n 0), (0, i64 p)])
    (fun i H1 n2 => ∃ rb bk cp ks, SY H1 n p 8 i (zc 8 A) rb bk cp ks ∧ n < rb ∧ rb ≤ n2 ∧ (∀ j, j < i → n < bk j) ∧ (i = 0 → ks.c 3 = .nils) ∧ (∀ x, x < n → H1.get x = H.get x) ∧ ∀ x, n2 ≤ x → H1.get x = none) (by (repeat first | exact trivial | refine And.intro rfl ?_)) ?_ ?_
  · exact ⟨n + 1, fun _ => n + 1, fun _ => 0, ks0, { g := Hp.get_eq _ _ _, s := k5, c0 := k0, c1 := k1, c2 := k2, rows := .inl ⟨k3, rfl⟩, row := fun i hi => by omega, qc := fun i hi => by omega, d1 := by omega, d2 := fun i hi => by omega, d3 := fun i j hi => by omega }, by omega, by omega, fun j hj => by omega, fun _ => k3, fun x hx => Hp.get_ne _ _ (by omega), fun x hx => by rw [Hp.get_ne _ _ (by omega)]; exact hf x (by omega)⟩
  rintro i n2 H1 hi hn2 ⟨rb, bk, cp, ks, hS, hrb, hrb2, hbk, hnil, hlow, hfr⟩
  have gs := hS.g
  have ss := hS.s
  have hbkn : ∀ j, j < i → bk j < n2 := fun j hj => by
    obtain ⟨kj, gj, _⟩ := hS.row j hj
    exact getlt hfr gj
  obtain rfl : i = 0 := by omega
  (refine zG ?_)
  refine RS.call rfl ((solve_red p 0 (zc 8 A) n rb bk cp ks _ _ hp (by omega) hS hnil (fun k x hk hx => by
    unfold zc
    by_cases e : x < 8
    · rw [if_pos e]; exact hA k hk x e
    · rw [if_neg e]; omega)).mono ?_)
  rintro r H3 n3 hn3 ⟨R, P, d, bk', ks', hdm, hRR, hsm, hS3, hfr3, hlow3⟩
  have hsm2 : same p (zc 8 R) d A 0 := same_trans hsm (same_congr (fun k x hk hx => by unfold zc; rw [if_pos hx, if_pos hx]))
  have hd8 := hRR.d8
  have gs3 := hS3.g
  have ss3 := hS3.s
  have h3n := getlt hfr3 gs3
  have hl3 : ∀ x, x < n → H3.get x = H.get x := fun x hx => by rw [hlow3 x (by omega) (by omega) (by omega) (fun k hk => by have := hbk k hk; omega)]; exact hlow x hx
  rcases hS3.rows with ⟨r3, rfl⟩ | ⟨ro, rcap, rk, r3, rg, rs, rm, rc⟩
  · have r3' : ks'.c (0 + 3) = .nils := r3
    (refine zG ?_)
    refine CS.iter 0 (fun i => [(41, i64 (i : Nat)), (40, i64 0), (8, .s (.slc n3 0 0 0))]) (fun _ => (n3, ⟨0 * 8, fun i => Zs.c [(8, SV.int .u8 0)] (i % 8), 32⟩) :: H3) (fun _ => True) (by (repeat first | exact trivial | refine And.intro rfl ?_)) (Drops.refl _ _) trivial ?_
    intro i n4 hi4 hn4 _
    obtain rfl : i = 0 := by omega
    (refine zG ?_)
    exact ⟨.s (.slc n3 0 0 0), _, rfl, Drops.refl _ _, _, zc 8 R, 0, P, n3, rfl, ⟨0, 0, _, rfl, Hp.get_eq _ _ _, by simp, Nat.le_refl _, fun i x hi => by omega⟩, hRR, hsm2, by omega, by omega, fun x hx => by rw [Hp.get_ne _ _ (by omega)]; exact hfr3 x (by omega), fun x hx => by rw [Hp.get_ne _ _ (by omega)]; exact hl3 x hx⟩
  · have r3' : ks'.c (0 + 3) = .slc rb ro d rcap := r3
    have hrb3 := getlt hfr3 rg
    (refine zG ?_)
    refine CS.weak (e1 := [(41, i64 ((0 : Nat) : Int)), (40, i64 (d : Nat)), (39, .s (.slc rb ro d rcap)), (8, .s (.slc n3 0 0 0))]) (by (repeat first | exact trivial | refine And.intro rfl ?_)) (Drops.refl _ _) ?_
    refine CS.loop (fun k e H1 n1 => ∃ i v8 b8, i ≤ d ∧ k = d - i ∧ e = [(41, i64 (i : Nat)), (40, i64 (d : Nat)), (39, .s (.slc rb ro d rcap)), (8, .s v8)] ∧ VL H1 v8 i (zc 8 R) b8 ∧ n3 ≤ b8 ∧ b8 < n1 ∧ (∀ x, x < n3 → H1.get x = H3.get x) ∧ ∀ x, n1 ≤ x → H1.get x = none) d ?_ ?_
    · exact ⟨0, _, n3, by omega, rfl, rfl, ⟨0, 0, _, rfl, Hp.get_eq _ _ _, by simp, Nat.le_refl _, fun i x hi => by omega⟩, by omega, by omega, fun x hx => Hp.get_ne _ _ (by omega), fun x hx => by rw [Hp.get_ne _ _ (by omega)]; exact hfr3 x (by omega)⟩
    rintro k e H4 n4 hn4 ⟨i, v8, b8, hi8, rfl, rfl, hV8, hb8, hb8n, hl4, hfr4⟩
    have rg4 : H4.get rb = some rk := by rw [hl4 rb hrb3]; exact rg
    (refine zG ?_)
    refine zI ?_ ?_<;>intro h5
    · have hi' : i < d := by omega
      have rc1 : rk.c (ro + i * 1) = .slc (bk' i) 0 (8 + 1) (cp (bk' i)) := by rw [Nat.mul_one]; exact rc i hi'
      obtain ⟨ki, gi, si, ci⟩ := hS3.row i hi'
      have hqc := hS3.qc i hi'
      have hbi3 := getlt hfr3 gi
      have gi4 : H4.get (bk' i) = some ki := by rw [hl4 _ hbi3]; exact gi
      have ci8 : ∀ x, x < 8 → ki.c (0 + x) = .int .u8 (R i x) := fun x hx => by rw [Nat.zero_add]; exact ci x (by omega)
      (refine zG ?_)
      refine RS.slsTo (j := 8) (by exact rfl) (by exact rfl) rfl (by omega) ?_
      (repeat first|refine zG ?_|(refine LS.nilO ?_;intro nq hnq hltq;try refine zU ?_)|(refine MS.new ?_;intro bq hbq hbqf;try refine zU ?_)|(refine MS.nil ?_;intro nq hnq hltq;have hlq:=hltq _ _ (Hp.get_eq _ _ _);clear hltq;try refine zU ?_)|(refine LS.nilQ ?_;try with_reducible intro nq hnq;try refine zU ?_))
      refine RS.s2a (by exact rfl) (by omega) ?_
      (refine zG ?_)
      refine RS.appV (w := R i) (by exact rfl) (by exact rfl) (hV8.keep (Hp.get_ne _ _ (by omega))) (Hp.get_eq _ _ _) rfl (fun q hq => by (try dsimp only); unfold splice; rw [if_pos (by omega), Nat.sub_zero]; rfl) (by omega) (by rw [Hp.get_ne _ _ (by omega)]; exact hfr4 _ (by omega)) (by omega) ?_
      intro vB bB HB nB hVB0 hbB hltB hnB hnB' hgB
      have hVB : VL HB vB (i + 1) (zc 8 R) bB := hVB0.same (fun k x hk hx => by
        unfold snc
        by_cases e : k = i
        · rw [if_pos e, e]; unfold zc; rw [if_pos hx]
        · rw [if_neg e])
      (refine zG ?_)
      refine ⟨d - (i + 1), [(41, i64 ((i + 1 : Nat) : Int)), (40, i64 (d : Nat)), (39, .s (.slc rb ro d rcap)), (8, .s vB)], HB, by omega, by (repeat first | exact trivial | refine And.intro rfl ?_), Drops.refl _ _, i + 1, vB, bB, by omega, rfl, rfl, hVB, by omega, hltB, fun x hx => by rw [hgB x (by omega), Hp.get_ne _ _ (by omega)]; exact hl4 x hx, fun x hx => by rw [hgB x (by omega), Hp.get_ne _ _ (by omega)]; exact hfr4 x (by omega)⟩
    · obtain rfl : d = i := by omega
      (refine zG ?_)
      exact ⟨.s v8, H4, rfl, Drops.refl _ _, v8, zc 8 R, d, P, b8, rfl, hV8, hRR, hsm2, by omega, by omega, fun x hx => hfr4 x (by omega), fun x hx => by rw [hl4 x (by omega)]; exact hl3 x hx⟩

end Go.Proofs.YtideblodkkgodaaGreat

/- Codes of modules and vectors, and lists that a module keeps, on the reference's side. -/

namespace Go.V

set_option linter.unusedSimpArgs false

set_option linter.unusedVariables false

theorem apk_mat {p : Int} {l v : Nat → Int} {d x : Nat} (hd : d ≤ 8) (hl : ∀ y, d ≤ y → y < 8 → l (8 * y + x) = 0) : apk p l v d x = app p l v x := by
  unfold app apk
  rw [sm_more hd (fun y h1 h2 => by rw [hl y h1 h2, Int.mul_zero])]

end Go.V

namespace Go.Proofs.YtideblodkkgodaaGreat

open Go.V

variable [BW]

set_option linter.unusedSimpArgs false

set_option linter.unusedVariables false

set_option maxHeartbeats 4000000

end Go.Proofs.YtideblodkkgodaaGreat

/- Quotients of modules, the reference's. -/

namespace Go.V

set_option linter.unusedSimpArgs false

set_option linter.unusedVariables false

/-- Which places are first ones of the first i vectors. -/
noncomputable def ldb (P : Nat → Nat) (i : Nat) : Nat → SV := fun q => .bool (tb (∃ j, j < i ∧ P j = q))

end Go.V

namespace Go.Proofs.YtideblodkkgodaaGreat

open Go.V

variable [BW]

set_option linter.unusedSimpArgs false

set_option linter.unusedVariables false

set_option maxHeartbeats 4000000

end Go.Proofs.YtideblodkkgodaaGreat

/- What a law does with a list and a module that it is given. -/

namespace Go.V

set_option linter.unusedSimpArgs false

set_option linter.unusedVariables false

/-- The room behind so many vectors. -/
def rmb (k : Nat) : Nat := if k % 6 = 5 then 0 else if k % 3 = 0 then 1 else k

theorem rmb_le (k : Nat) : rmb k ≤ k + 1 := by unfold rmb; split <;> (try split) <;> omega

/-- A list that has been copied, with what fills the room. -/
def tvC (f : Nat → Int) (len : Nat) (q : Nat) : SV := .int .u8 (if q < 8 * len then f q else if q % 8 = 0 then 201 else 0)

def tvP (f : Nat → Int) (i : Nat) (q : Nat) : SV := .int .u8 (if q < 8 * i then f q else 0)

def tvQ (f : Nat → Int) (len j : Nat) (q : Nat) : SV := .int .u8 (if q < 8 * len then f q else if q < 8 * j then (if q % 8 = 0 then 201 else 0) else 0)

theorem tvP_step (f : Nat → Int) (i q : Nat) {r : Nat → Int} (hr : ∀ y, y < 8 → r y = f (8 * i + y)) : splice (tvP f i) (i * 8) 8 (bys r) q = tvP f (i + 1) q := by
  unfold splice tvP bys
  by_cases e : i * 8 ≤ q ∧ q < i * 8 + 8
  · rw [if_pos e, if_pos (by omega), hr _ (by omega), show 8 * i + (q - i * 8) = q by omega]
  · rw [if_neg e]
    by_cases e2 : q < 8 * i
    · rw [if_pos e2, if_pos (by omega)]
    · rw [if_neg e2, if_neg (by omega)]

theorem tvQ_step (f : Nat → Int) (len j q : Nat) {c : Nat → SV} (hl : len ≤ j) (hc : ∀ y, y < 8 → c y = .int .u8 (if y = 0 then 201 else 0)) : splice (tvQ f len j) (j * 8) 8 c q = tvQ f len (j + 1) q := by
  unfold splice tvQ
  by_cases e : j * 8 ≤ q ∧ q < j * 8 + 8
  · rw [if_pos e, hc _ (by omega)]
    refine congrArg (SV.int .u8) ?_
    rw [if_neg (show ¬q < 8 * len by omega), if_pos (show q < 8 * (j + 1) by omega)]
    by_cases e2 : q % 8 = 0
    · rw [if_pos (show q - j * 8 = 0 by omega), if_pos e2]
    · rw [if_neg (show ¬q - j * 8 = 0 by omega), if_neg e2]
  · rw [if_neg e]
    refine congrArg (SV.int .u8) ?_
    by_cases e2 : q < 8 * len
    · rw [if_pos e2, if_pos e2]
    · rw [if_neg e2, if_neg e2]
      by_cases e3 : q < 8 * j
      · rw [if_pos e3, if_pos (show q < 8 * (j + 1) by omega)]
      · rw [if_neg e3, if_neg (show ¬q < 8 * (j + 1) by omega)]

end Go.V

namespace Go.Proofs.YtideblodkkgodaaGreat

open Go.V

variable [BW]

set_option linter.unusedSimpArgs false

set_option linter.unusedVariables false

set_option maxHeartbeats 4000000

/-- laws.roomBehind -/
def ir25 : Cd := (.seq (.reg [⟨some 2,none,.mov (.c (.int .i64 0))⟩]) (.seq (.seq (.reg [⟨some 3,none,.mov (.t 0)⟩,⟨some 4,none,.bin .rem (.t 3) (.c (.int .i64 6))⟩,⟨some 5,none,.bin .eql (.t 4) (.c (.int .i64 5))⟩]) (.cond (.t 5) (.seq (.reg [⟨some 2,none,.mov (.c (.int .i64 0))⟩]) .ret) .skip)) (.seq (.seq (.reg [⟨some 6,none,.mov (.t 0)⟩,⟨some 7,none,.bin .rem (.t 6) (.c (.int .i64 3))⟩,⟨some 8,none,.bin .eql (.t 7) (.c (.int .i64 0))⟩]) (.cond (.t 8) (.seq (.reg [⟨some 2,none,.mov (.c (.int .i64 1))⟩]) .ret) .skip)) (.seq (.reg [⟨some 9,none,.mov (.t 0)⟩,⟨some 2,none,.mov (.t 9)⟩]) .ret))))

set_option maxRecDepth 100000 in
theorem tr25 : trFn Tryz.prog Tryz.f25 = some (10, ir25, [.tmp 2]) := by kernel_rfl

theorem laws_roomBehind (k : Nat) (H : Hp) (n : Nat) (hk : k ≤ 4000000) :
    FnS Tryz.prog 25 [i64 (k : Nat)] H n (fun r H' _ => r = i64 (rmb k : Nat) ∧ H' = H) := by
  refine FnS.of_body Tryz.func25 tr25 (by simp) (fun hf => ?_)
  dsimp only [argEnv]
  unfold ir25
  (refine zG ?_)
  refine zI ?_ ?_<;>intro h1
  · (refine zG ?_)
    exact ⟨_, H, rfl, by exact zD, by unfold rmb; rw [if_pos (by omega)]; rfl, rfl⟩
  (refine zG ?_)
  refine zI ?_ ?_<;>intro h2
  · (refine zG ?_)
    exact ⟨_, H, rfl, by exact zD, by unfold rmb; rw [if_neg (by omega), if_pos (by omega)]; rfl, rfl⟩
  (refine zG ?_)
  exact ⟨_, H, rfl, by exact zD, by unfold rmb; rw [if_neg (by omega), if_neg (by omega)], rfl⟩

/-- laws.szVectorS -/
def ir4 : Cd := (.seq (.reg [⟨some 4,none,.mov (.c (.int .i64 0))⟩]) (.seq (.reg [⟨some 5,none,.mov (.t 1)⟩,⟨some 6,none,.mov (.t 0)⟩,⟨some 7,none,.len (.t 6)⟩,⟨some 8,none,.bin .sub (.t 5) (.t 7)⟩,⟨some 1,none,.mov (.t 8)⟩]) (.seq (.seq (.reg [⟨some 9,none,.mov (.t 1)⟩,⟨some 10,none,.bin .lss (.t 9) (.c (.int .i64 0))⟩]) (.cond (.t 10) (.seq (.reg [⟨some 4,none,.mov (.c (.int .i64 (-1)))⟩]) .ret) .skip)) (.seq (.reg [⟨some 11,none,.mov (.t 1)⟩,⟨some 4,none,.mov (.t 11)⟩]) .ret))))

set_option maxRecDepth 100000 in
theorem tr4 : trFn Tryz.prog Tryz.f4 = some (12, ir4, [.tmp 4]) := by kernel_rfl

theorem laws_szVectorS (m : Nat) (sv : SV) (len : Nat) (f : Nat → Int) (H : Hp) (n : Nat) (hl : len ≤ 9223372036854775807) (hR : RA m 8 sv len f) :
    FnS Tryz.prog 4 [.s sv, i64 1000000] H n (fun r H' _ => r = i64 (if len ≤ 1000000 then 1000000 - (len : Int) else -1) ∧ H' = H) := by
  refine FnS.of_body Tryz.func4 tr4 (by simp) (fun hf => ?_)
  dsimp only [argEnv]
  unfold ir4
  rcases hR with ⟨rfl, rfl⟩ | ⟨b, o, cap, rfl, h1, h2, h3⟩
  · (refine zG ?_)
    exact ⟨_, H, rfl, by exact zD, rfl, rfl⟩
  · (refine zG ?_)
    refine zI ?_ ?_<;>intro h1
    · (refine zG ?_)
      exact ⟨_, H, rfl, by exact zD, by rw [if_neg (by omega)], rfl⟩
    (refine zG ?_)
    exact ⟨_, H, rfl, by exact zD, by rw [if_pos (by omega)], rfl⟩

end Go.Proofs.YtideblodkkgodaaGreat
