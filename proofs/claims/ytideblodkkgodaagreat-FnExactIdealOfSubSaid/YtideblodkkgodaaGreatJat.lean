/- Contracts of the program's functions. -/
import Derived.Test.YtideblodkkgodaaGreatJam
import Derived.Test.YtideblodkkgodaaGreatJal
import Derived.Test.YtideblodkkgodaaGreatJao
import Derived.Test.YtideblodkkgodaaGreatJap
import Derived.Test.YtideblodkkgodaaGreatJaq
set_option linter.unusedSectionVars false
set_option linter.unusedVariables false
set_option linter.unusedSimpArgs false

namespace Go.Proofs.YtideblodkkgodaaGreat

open Go.V

variable [BW]

set_option linter.unusedSimpArgs false

set_option linter.unusedVariables false

set_option maxHeartbeats 4000000

/-- spec.l01Prime -/
def ir130 : Cd := (.seq (.reg [⟨some 2,none,.mov (.c (.bool false))⟩]) (.seq (.seq (.reg [⟨some 3,none,.mov (.c (.int .i64 2))⟩]) (.block 0 (.loop (.seq (.seq (.reg [⟨some 4,none,.mov (.t 3)⟩,⟨some 5,none,.mov (.t 0)⟩,⟨some 6,none,.bin .lss (.t 4) (.t 5)⟩,⟨some 7,none,.mov (.t 6)⟩,⟨some 8,(some (7,true)),.mov (.t 3)⟩,⟨some 9,(some (7,true)),.bin .leq (.t 8) (.c (.int .i64 31))⟩,⟨some 10,none,.pick (.t 7) (.t 9) (.c (.bool false))⟩]) (.cond (.t 10) .skip (.exit 0))) (.seq (.block 1 (.seq (.reg [⟨some 13,none,.mov (.t 0)⟩,⟨some 14,none,.mov (.t 3)⟩,⟨some 15,none,.bin .rem (.t 13) (.t 14)⟩,⟨some 16,none,.bin .eql (.t 15) (.c (.int .i64 0))⟩]) (.cond (.t 16) (.seq (.reg [⟨some 2,none,.mov (.c (.bool false))⟩]) .ret) .skip))) (.reg [⟨some 11,none,.mov (.t 3)⟩,⟨some 12,none,.bin .add (.t 11) (.c (.int .i64 1))⟩,⟨some 3,none,.mov (.t 12)⟩])))))) (.seq (.reg [⟨some 17,none,.mov (.t 0)⟩,⟨some 18,none,.call 131 [(.t 17),(.c (.int .i64 2)),(.c (.int .i64 31))]⟩,⟨some 2,none,.mov (.t 18)⟩]) .ret)))

set_option maxRecDepth 100000 in
theorem tr130 : trFn Tryz.prog Tryz.f130 = some (19, ir130, [.tmp 2]) := by kernel_rfl

theorem spec_l01Prime (p : Int) (H : Hp) (n : Nat) :
    FnS Tryz.prog 130 [i64 p] H n (fun v H' _ => v = bl (isP p) ∧ H' = H) := by
  refine FnS.of_body Tryz.func130 tr130 (by simp) (fun hf => ?_)
  dsimp only [argEnv]
  unfold ir130
  (refine zG ?_)
  refine CS.iter 31 (fun i => [(3, i64 (i + 2 : Nat)), (0, i64 p)]) (fun _ => H) (fun i => i < 31 ∧ ∀ k : Nat, 2 ≤ k → k < i + 2 → (k : Int) < p ∧ p % k ≠ 0) ⟨rfl, rfl, trivial⟩ (Drops.refl _ _) ⟨by omega, fun k h1 h2 => by omega⟩ ?_
  intro i n1 hi hn ⟨hi6, hJ⟩
  (refine zG ?_)
  have hend : ((p ≤ (i + 2 : Nat)) ∨ 31 < i + 2) → decide (2 ≤ p ∧ p ≤ 31) = isP p := by
    intro hh
    by_cases h1 : 2 ≤ p ∧ p ≤ 31
    · rw [isP_yes' h1.1 h1.2 (fun k h2 h3 => (hJ k h2 (by omega)).2)]
      simp [h1]
    · rw [isP_out (by omega)]
      simp [h1]
  refine RS.sp (t := 7) rfl (fun h => ?_) (fun h => ?_) <;> (try simp only [tb_eq, tb_eqF, decide_eq_true_eq, decide_eq_false_iff_not, beq_iff_eq, bne_iff_ne, ne_eq, Decidable.not_not, beq_eq_false_iff_ne, bne_eq_false_iff_eq, Bool.not_eq_true', Bool.not_eq_false', Bool.not_eq_eq_eq_not, Bool.not_true, Bool.not_false] at h)
  · (refine zG ?_)
    refine zI ?_ ?_<;>intro h2
    · skip
      (refine zG ?_)
      refine zI ?_ ?_<;>intro h4
      · skip
        (refine zG ?_)
        exact ⟨_, H, rfl, by exact zD, by rw [isP_div (k := i + 2) (by omega) h h4], rfl⟩
      · skip
        (refine zG ?_)
        refine ⟨by omega, by (repeat first | exact trivial | refine And.intro rfl ?_), by exact zD, by omega, fun k h5 h6 => ?_⟩
        by_cases h7 : k < i + 2
        · exact hJ k h5 h7
        · have : k = i + 2 := by omega
          subst this
          exact ⟨h, h4⟩
    · skip
      (refine zG ?_)
      refine RS.call rfl ((spec_l01In _ _ _ _ _).mono ?_)
      rintro v H' n2 hn2 ⟨rfl, rfl⟩
      (refine zG ?_)
      exact ⟨_, _, rfl, by exact zD, congrArg bl (hend (by omega)), rfl⟩
  · (refine zG ?_)
    refine RS.call rfl ((spec_l01In _ _ _ _ _).mono ?_)
    rintro v H' n2 hn2 ⟨rfl, rfl⟩
    (refine zG ?_)
    exact ⟨_, _, rfl, by exact zD, congrArg bl (hend (by omega)), rfl⟩

/-- (impl.field).plus -/
def ir30 : Cd := (.seq (.reg [⟨some 4,none,.box 62 (.t 0)⟩,⟨some 7,none,.box 32 (.t 3)⟩]) (.seq (.seq (.reg [⟨some 10,none,.mov (.t 2)⟩,⟨some 11,none,.bin .eql (.t 10) (.c (.int .i64 0))⟩]) (.cond (.t 11) .ret .skip)) (.seq (.reg [⟨some 12,none,.ld (some 8) (.t 7)⟩,⟨some 13,none,.mov (.c (.int .i64 0))⟩]) (.block 0 (.loop (.seq (.reg [⟨some 14,none,.bin .lss (.t 13) (.c (.int .i64 8))⟩]) (.seq (.cond (.t 14) .skip (.exit 0)) (.seq (.block 1 (.seq (.reg [⟨some 15,none,.mov (.t 13)⟩,⟨some 16,none,.ix 8 1 none (.t 12) (.t 13)⟩,⟨some 8,none,.mov (.t 15)⟩,⟨some 9,none,.mov (.t 16)⟩]) (.drw true [17] [⟨some 17,none,.mov (.t 1)⟩,⟨some 18,none,.mov (.t 8)⟩,⟨some 19,none,.ld (some 2) (.t 4)⟩,⟨some 20,none,.mov (.t 1)⟩,⟨some 21,none,.mov (.t 8)⟩,⟨some 22,none,.ck (.t 20)⟩,⟨some 23,none,.ia 8 1 (.t 22) (.t 21)⟩,⟨some 24,none,.ld none (.t 23)⟩,⟨some 25,none,.cv .i64 (.t 24)⟩,⟨some 26,none,.mov (.t 2)⟩,⟨some 27,none,.mov (.t 9)⟩,⟨some 28,none,.cv .i64 (.t 27)⟩,⟨some 29,none,.bin .mul (.t 26) (.t 28)⟩,⟨some 30,none,.bin .add (.t 25) (.t 29)⟩,⟨some 31,none,.call 54 [(.t 19),(.t 30)]⟩,⟨some 32,none,.ck (.t 17)⟩,⟨some 33,none,.ia 8 1 (.t 32) (.t 18)⟩,⟨none,none,.st 1 (.t 33) (.t 31)⟩]))) (.reg [⟨some 34,none,.bin .add (.t 13) (.c (.int .i64 1))⟩,⟨some 13,none,.mov (.t 34)⟩])))))))))

set_option maxRecDepth 100000 in
theorem tr30 : trFn Tryz.prog Tryz.f30 = some (35, ir30, []) := by kernel_rfl

theorem field_plus (p n' k : Int) (v w : Nat → Int) (b o : Nat) (K : Blk) (H : Hp) (n : Nat) (hp : 2 ≤ p ∧ p ≤ 31) (hb : H.get b = some K) (ho : o + 8 ≤ K.size)
    (hc : ∀ i, i < 8 → K.c (o + i) = .int .u8 (v i)) (hv : isRes p 8 v) (hw : isBy 8 w) (hk : 0 ≤ k ∧ k ≤ 100000) :
    FnS Tryz.prog 30 [fld p n', ptr b o, i64 k, .arr 8 (bys w)] H n (fun r H' _ => r = .tup [] ∧ H' = H.set b (splice K.c o 8 (bys (pl p v k w)))) := by
  refine FnS.of_body Tryz.func30 tr30 (by simp) (fun hf => ?_)
  dsimp only [argEnv]
  unfold ir30
  have hbn : b < n := by
    rcases Nat.lt_or_ge b n with h | h
    · exact h
    · rw [hf b h] at hb; cases hb
  (refine zG ?_)
  refine zI ?_ ?_<;>intro h1
  · (refine zG ?_)
    subst h1
    refine ⟨.tup [], H.set b (splice K.c o 8 (bys (pl p v 0 w))), rfl, ?_, rfl, rfl⟩
    have hd : Drops n H (H.set b (splice K.c o 8 (bys (pl p v 0 w)))) := by
      have := Drops.setc (m := n) (c := K.c) (c1 := splice K.c o 8 (bys (pl p v 0 w))) hb (fun q hq => by
        unfold splice
        by_cases e : o ≤ q ∧ q < o + 8
        · rw [if_pos e]
          have := hc (q - o) (by omega)
          rw [show o + (q - o) = q by omega] at this
          rw [this]
          exact congrArg (SV.int .u8) (pl_zero w hv (by omega)).symm
        · rw [if_neg e])
      rwa [Hp.set_self hb] at this
    exact Drops.drop (by omega) (Hp.get_set_none _ (hf _ (by omega))) (Drops.drop (by omega) (Hp.get_set_none _ (hf _ (by omega))) hd)
  · (refine zG ?_)
    refine CS.iter 8 (fun i => [(13, i64 i), (12, .arr 8 (bys w)), (1, ptr b o), (2, i64 k), (4, ptr n 0)])
      (fun i => (n + 1, ⟨8, bys w, 32⟩) :: (n, ⟨2, fldC p n', 62⟩) :: H.set b (splice K.c o i (bys (pl p v k w)))) (fun _ => True) (by (repeat first | exact trivial | refine And.intro rfl ?_))
      (by rw [splice_zero, Hp.set_self hb]; exact Drops.refl _ _) trivial ?_
    intro i n1 hi hn _
    (refine zG ?_)
    refine zI ?_ ?_<;>intro h2
    · have hvi := hv i (by omega)
      have hwi := hw i (by omega)
      have hm := mulB hk.1 hk.2 hwi.1 hwi.2
      have hplb : 0 ≤ pl p v k w i ∧ pl p v k w i < p := modB _ hp.1
      have hst : ∀ q, q < 8 → splice K.c o i (bys (pl p v k w)) (o + q) = .int .u8 (prt (pl p v k w) v i q) := fun q hq => by
        unfold splice prt
        by_cases e : q < i
        · rw [if_pos (by omega), if_pos e, Nat.add_sub_cancel_left]; rfl
        · rw [if_neg (by omega), if_neg e]; exact hc q hq
      have hpi := prt_at (pl p v k w) v i
      have hpl : (prt (pl p v k w) v i i + k * w i) % p = pl p v k w i := by rw [hpi]; rfl
      (refine zG ?_)
      refine LS.callQ (u8 (pl p v k w i)) rfl (fun q hq => FnS.args ?_ ((field_mod p n' (prt (pl p v k w) v i i + k * w i) _ _ hp.1 hp.2 (by omega)).mono (fun r H' _ _ h => by rw [hpl] at h; exact h))) ?_
      · exact concs_cons (conc_arr (fldC_of rfl rfl)) rfl
      (repeat first|refine zG ?_|(refine LS.nilO ?_;intro nq hnq hltq;try refine zU ?_)|(refine MS.new ?_;intro bq hbq hbqf;try refine zU ?_)|(refine MS.nil ?_;intro nq hnq hltq;have hlq:=hltq _ _ (Hp.get_eq _ _ _);clear hltq;try refine zU ?_)|(refine LS.nilQ ?_;try with_reducible intro nq hnq;try refine zU ?_))
      refine ⟨by omega, by (repeat first | exact trivial | refine And.intro rfl ?_), Drops.keepc rfl rfl (fun _ _ => rfl) (Drops.keepc rfl rfl (fun _ _ => rfl) (Drops.setc hb (fun q hq => congrFun (splice_put K.c (bys (pl p v k w)) o i) q))), trivial⟩
    · have : i = 8 := by omega
      subst this
      (refine zG ?_)
      try simp only [↓reduceIte]
      (repeat first|refine zG ?_|(refine LS.nilO ?_;intro nq hnq hltq;try refine zU ?_)|(refine MS.new ?_;intro bq hbq hbqf;try refine zU ?_)|(refine MS.nil ?_;intro nq hnq hltq;have hlq:=hltq _ _ (Hp.get_eq _ _ _);clear hltq;try refine zU ?_)|(refine LS.nilQ ?_;try with_reducible intro nq hnq;try refine zU ?_))
      exact ⟨.tup [], H.set b (splice K.c o 8 (bys (pl p v k w))), rfl, Drops.drop (by omega) (Hp.get_set_none _ (hf _ (by omega))) (Drops.drop (by omega) (Hp.get_set_none _ (hf _ (by omega))) (Drops.refl _ _)), rfl, rfl⟩

/-- slices.ContainsFunc[[]impl.Vector,impl.Vector] -/
def ir64 : Cd := (.seq (.reg [⟨some 4,none,.mov (.c (.bool false))⟩]) (.seq (.reg [⟨some 5,none,.mov (.t 0)⟩,⟨some 6,none,.mov (.t 1)⟩,⟨some 7,none,.call 96 [(.t 5),(.t 6)]⟩,⟨some 8,none,.bin .geq (.t 7) (.c (.int .i64 0))⟩,⟨some 4,none,.mov (.t 8)⟩]) .ret))

set_option maxRecDepth 100000 in
theorem tr64 : trFn Tryz.prog Tryz.f64 = some (9, ir64, [.tmp 4]) := by kernel_rfl

theorem slices_ContainsFunc (Q : Nat → Prop) (F : FuncId) (post : List SV) (v : SV) (len : Nat) (hl : len ≤ 4000000) (w : Nat → Int) (H : Hp) (n : Nat) (hv : lst H v len w)
    (hF : ∀ i n' : Nat, i < len → n ≤ n' → FnS Tryz.prog F ([.arr 8 (bys (fun x => w (i * 8 + x)))] ++ post.map .s) H n' (fun r H' _ => r = bl (tb (Q i)) ∧ H' = H)) :
    FnS Tryz.prog 64 [.s v, .s (.fn F [] post)] H n (fun r H' _ => r = bl (tb (∃ i, i < len ∧ Q i)) ∧ H' = H) := by
  refine FnS.of_body Tryz.func64 tr64 (by simp) (fun hf => ?_)
  dsimp only [argEnv]
  unfold ir64
  (refine zG ?_)
  refine RS.call rfl ((slices_IndexFunc Q F post v len hl w _ _ hv hF).mono ?_)
  rintro r H n2 hn2 ⟨⟨x, rfl, hx⟩, rfl⟩
  (refine zG ?_)
  exact ⟨_, H, rfl, by exact zD, by rw [← tb_iff hx, tb_dec], rfl⟩

/-- laws.toLinear -/
def ir24 : Cd := (.seq (.reg [⟨some 1,none,.box 23 (.t 0)⟩,⟨some 2,none,.new 34 [(64,(.int .u8 0))]⟩]) (.seq (.reg [⟨some 3,none,.new 34 [(64,(.int .u8 0))]⟩]) (.seq (.seq (.reg [⟨some 4,none,.mov (.c (.int .i64 0))⟩]) (.block 0 (.loop (.seq (.seq (.reg [⟨some 5,none,.mov (.t 4)⟩,⟨some 6,none,.bin .lss (.t 5) (.c (.int .i64 8))⟩]) (.cond (.t 6) .skip (.exit 0))) (.seq (.block 1 (.reg [⟨some 9,none,.mov (.t 4)⟩,⟨some 10,none,.mov (.t 4)⟩,⟨some 11,none,.ia 8 8 (.t 1) (.t 10)⟩,⟨some 12,none,.ld (some 8) (.t 11)⟩,⟨some 13,none,.call 22 [(.t 12)]⟩,⟨some 14,none,.ia 8 8 (.t 3) (.t 9)⟩,⟨none,none,.st 8 (.t 14) (.t 13)⟩])) (.reg [⟨some 7,none,.mov (.t 4)⟩,⟨some 8,none,.bin .add (.t 7) (.c (.int .i64 1))⟩,⟨some 4,none,.mov (.t 8)⟩])))))) (.seq (.reg [⟨some 15,none,.ld (some 64) (.t 3)⟩,⟨none,none,.st 64 (.t 2) (.t 15)⟩]) .ret))))

set_option maxRecDepth 100000 in
theorem tr24 : trFn Tryz.prog Tryz.f24 = some (16, ir24, [.cell (some 64) 2]) := by kernel_rfl

theorem laws_toLinear (l : Nat → Int) (H : Hp) (n : Nat) :
    FnS Tryz.prog 24 [.arr 64 (bys l)] H n (fun r H' _ => r = .arr 64 (bys l) ∧ H' = H) := by
  refine FnS.of_body Tryz.func24 tr24 (by simp) (fun hf => ?_)
  dsimp only [argEnv]
  unfold ir24
  (refine zG ?_)
  refine CS.iter 8 (fun i => [(4, i64 i), (1, ptr n 0), (2, ptr (n + 1) 0), (3, ptr (n + 2) 0)])
    (fun i => (n + 2, ⟨64, bys (rowsTo (fun _ => 0) l i), 34⟩) :: (n + 1, ⟨64, bys (fun _ => 0), 34⟩) :: (n, ⟨64, bys l, 23⟩) :: H) (fun _ => True) (by (repeat first | exact trivial | refine And.intro rfl ?_))
    (Drops.keepc rfl rfl (fun _ _ => by rw [rowsTo_zero]; rfl) (Drops.keepc rfl rfl (fun _ _ => rfl) (Drops.refl _ _))) trivial ?_
  intro i n1 hi hn _
  have hk : ∀ q, q < 64 → (bys l) (0 + q) = .int .u8 (l q) := fun q hq => by rw [Nat.zero_add]; rfl
  (refine zG ?_)
  refine zI ?_ ?_<;>intro h1
  · have hr : ∀ q, q < 8 → (bys l) (8 * i + q) = .int .u8 (l (8 * i + q)) := fun q hq => rfl
    (refine zG ?_)
    refine RS.call rfl ((laws_toVector (fun x => l (8 * i + x)) _ _).mono ?_)
    rintro r H' n2 hn2 ⟨rfl, rfl⟩
    (refine zG ?_)
    exact ⟨by omega, by (repeat first | exact trivial | refine And.intro rfl ?_), Drops.keepc rfl rfl (fun q hq => rowsTo_step (fun y hy => rfl) q) (Drops.refl _ _), trivial⟩
  · have : i = 8 := by omega
    subst this
    (refine zG ?_)
    exact ⟨.arr 64 (bys l), H, conc_arr (fun q hq => by simp only [Nat.zero_add, bys, rowsTo]; rw [if_pos (by omega)]), by exact zD, rfl, rfl⟩

end Go.Proofs.YtideblodkkgodaaGreat
