/- Contracts of the program's functions. -/
import Derived.Test.YtbknndbfbebkdabGreatRR
import Derived.Test.YtbknndbfbebkdabGreatRLW
import Derived.Test.YtbknndbfbebkdabGreatRF0a
import Derived.Test.YtbknndbfbebkdabGreatRF0c
namespace Go.Proofs.YtbknndbfbebkdabGreatR
open Go.V
set_option linter.unusedSimpArgs false
set_option linter.unusedVariables false
set_option maxHeartbeats 4000000
/-- (impl.field).plus -/
def ir50 : Cd := (.seq (.reg [⟨some 4,none,.box 85 (.t 0)⟩,⟨some 7,none,.box 27 (.t 3)⟩]) (.seq (.seq (.reg [⟨some 10,none,.mov (.t 2)⟩,⟨some 11,none,.bin .eql (.t 10) (.c (.int .i64 0))⟩]) (.cond (.t 11) .ret .skip)) (.seq (.reg [⟨some 12,none,.ld (some 8) (.t 7)⟩,⟨some 13,none,.mov (.c (.int .i64 0))⟩]) (.block 0 (.loop (.seq (.reg [⟨some 14,none,.bin .lss (.t 13) (.c (.int .i64 8))⟩]) (.seq (.cond (.t 14) .skip (.exit 0)) (.seq (.block 1 (.seq (.reg [⟨some 15,none,.mov (.t 13)⟩,⟨some 16,none,.ix 8 1 none (.t 12) (.t 13)⟩,⟨some 8,none,.mov (.t 15)⟩,⟨some 9,none,.mov (.t 16)⟩]) (.drw true [17] [⟨some 17,none,.mov (.t 1)⟩,⟨some 18,none,.mov (.t 8)⟩,⟨some 19,none,.ld (some 2) (.t 4)⟩,⟨some 20,none,.mov (.t 1)⟩,⟨some 21,none,.mov (.t 8)⟩,⟨some 22,none,.ck (.t 20)⟩,⟨some 23,none,.ia 8 1 (.t 22) (.t 21)⟩,⟨some 24,none,.ld none (.t 23)⟩,⟨some 25,none,.cv .i64 (.t 24)⟩,⟨some 26,none,.mov (.t 2)⟩,⟨some 27,none,.mov (.t 9)⟩,⟨some 28,none,.cv .i64 (.t 27)⟩,⟨some 29,none,.bin .mul (.t 26) (.t 28)⟩,⟨some 30,none,.bin .add (.t 25) (.t 29)⟩,⟨some 31,none,.call 82 [(.t 19),(.t 30)]⟩,⟨some 32,none,.ck (.t 17)⟩,⟨some 33,none,.ia 8 1 (.t 32) (.t 18)⟩,⟨none,none,.st 1 (.t 33) (.t 31)⟩]))) (.reg [⟨some 34,none,.bin .add (.t 13) (.c (.int .i64 1))⟩,⟨some 13,none,.mov (.t 34)⟩])))))))))
set_option maxRecDepth 100000 in
theorem tr50 : trFn Tryz.prog Tryz.f50 = some (35, ir50, []) := by kernel_rfl
theorem field_plus (p n' k : Int) (v w : Nat → Int) (b o : Nat) (K : Blk) (H : Hp) (n : Nat) (hp : 2 ≤ p ∧ p ≤ 31) (hb : H.get b = some K) (ho : o + 8 ≤ K.size)
    (hc : ∀ i, i < 8 → K.c (o + i) = .int .u8 (v i)) (hv : isRes p 8 v) (hw : isBy 8 w) (hk : 0 ≤ k ∧ k ≤ 100000) :
    FnS Tryz.prog 50 [fld p n', ptr b o, i64 k, .arr 8 (bys w)] H n (fun r H' _ => r = .tup [] ∧ H' = H.set b (splice K.c o 8 (bys (pl p v k w)))) := by
  refine FnS.of_body Tryz.func50 tr50 (by simp) (fun hf => ?_)
  dsimp only [argEnv]
  unfold ir50
  have hbn : b < n := by
    rcases Nat.lt_or_ge b n with h | h
    · exact h
    · rw [hf b h] at hb; cases hb
  (repeat first|refine zG ?_|(refine LS.nilO ?_;intro nq hnq hltq;try refine zU ?_)|(refine MS.new ?_;intro bq hbq hbqf;try refine zU ?_)|(refine MS.nil ?_;intro nq hnq hltq;have hlq:=hltq _ _ (Hp.get_eq _ _ _);clear hltq;try refine zU ?_)|(refine LS.nilQ ?_;try with_reducible intro nq hnq;try refine zU ?_))
  refine zI ?_ ?_<;>intro h1
  · (repeat first|refine zG ?_|(refine LS.nilO ?_;intro nq hnq hltq;try refine zU ?_)|(refine MS.new ?_;intro bq hbq hbqf;try refine zU ?_)|(refine MS.nil ?_;intro nq hnq hltq;have hlq:=hltq _ _ (Hp.get_eq _ _ _);clear hltq;try refine zU ?_)|(refine LS.nilQ ?_;try with_reducible intro nq hnq;try refine zU ?_))
    subst h1
    refine ⟨.tup [], H.set b (splice K.c o 8 (bys (pl p v 0 w))), rfl, ?_, rfl, rfl⟩
    have hd : Drops n H (H.set b (splice K.c o 8 (bys (pl p v 0 w)))) := by
      have := Drops.setc (m := n) (c := K.c) (c1 := splice K.c o 8 (bys (pl p v 0 w))) hb (fun q hq => by
        unfold splice
        by_cases e : o ≤ q ∧ q < o + 8
        · rw [if_pos e]
          have := hc (q - o) (by omega)
          rw [show o + (q - o) = q by omega] at this
          rw [this]
          exact congrArg (SV.int .u8) (pl_zero w hv (by omega)).symm
        · rw [if_neg e])
      rwa [Hp.set_self hb] at this
    exact Drops.drop (by omega) (Hp.get_set_none _ (hf _ (by omega))) (Drops.drop (by omega) (Hp.get_set_none _ (hf _ (by omega))) hd)
  · (repeat first|refine zG ?_|(refine LS.nilO ?_;intro nq hnq hltq;try refine zU ?_)|(refine MS.new ?_;intro bq hbq hbqf;try refine zU ?_)|(refine MS.nil ?_;intro nq hnq hltq;have hlq:=hltq _ _ (Hp.get_eq _ _ _);clear hltq;try refine zU ?_)|(refine LS.nilQ ?_;try with_reducible intro nq hnq;try refine zU ?_))
    refine CS.iter 8 (fun i => [(13, i64 i), (12, .arr 8 (bys w)), (1, ptr b o), (2, i64 k), (4, ptr n 0)])
      (fun i => (n + 1, ⟨8, bys w, 27⟩) :: (n, ⟨2, fldC p n', 85⟩) :: H.set b (splice K.c o i (bys (pl p v k w)))) (fun _ => True) (by (repeat first | exact trivial | refine And.intro rfl ?_))
      (by rw [splice_zero, Hp.set_self hb]; exact Drops.refl _ _) trivial ?_
    intro i n1 hi hn _
    (repeat first|refine zG ?_|(refine LS.nilO ?_;intro nq hnq hltq;try refine zU ?_)|(refine MS.new ?_;intro bq hbq hbqf;try refine zU ?_)|(refine MS.nil ?_;intro nq hnq hltq;have hlq:=hltq _ _ (Hp.get_eq _ _ _);clear hltq;try refine zU ?_)|(refine LS.nilQ ?_;try with_reducible intro nq hnq;try refine zU ?_))
    refine zI ?_ ?_<;>intro h2
    · have hvi := hv i (by omega)
      have hwi := hw i (by omega)
      have hm := mulB hk.1 hk.2 hwi.1 hwi.2
      have hplb : 0 ≤ pl p v k w i ∧ pl p v k w i < p := modB _ hp.1
      have hst : ∀ q, q < 8 → splice K.c o i (bys (pl p v k w)) (o + q) = .int .u8 (prt (pl p v k w) v i q) := fun q hq => by
        unfold splice prt
        by_cases e : q < i
        · rw [if_pos (by omega), if_pos e, Nat.add_sub_cancel_left]; rfl
        · rw [if_neg (by omega), if_neg e]; exact hc q hq
      have hpi := prt_at (pl p v k w) v i
      have hpl : (prt (pl p v k w) v i i + k * w i) % p = pl p v k w i := by rw [hpi]; rfl
      (repeat first|refine zG ?_|(refine LS.nilO ?_;intro nq hnq hltq;try refine zU ?_)|(refine MS.new ?_;intro bq hbq hbqf;try refine zU ?_)|(refine MS.nil ?_;intro nq hnq hltq;have hlq:=hltq _ _ (Hp.get_eq _ _ _);clear hltq;try refine zU ?_)|(refine LS.nilQ ?_;try with_reducible intro nq hnq;try refine zU ?_))
      refine LS.callQ (u8 (pl p v k w i)) rfl (fun q hq => FnS.args ?_ ((field_mod p n' (prt (pl p v k w) v i i + k * w i) _ _ hp.1 hp.2 (by omega)).mono (fun r H' _ _ h => by rw [hpl] at h; exact h))) ?_
      · exact concs_cons (conc_arr (fldC_of rfl rfl)) rfl
      (repeat first|refine zG ?_|(refine LS.nilO ?_;intro nq hnq hltq;try refine zU ?_)|(refine MS.new ?_;intro bq hbq hbqf;try refine zU ?_)|(refine MS.nil ?_;intro nq hnq hltq;have hlq:=hltq _ _ (Hp.get_eq _ _ _);clear hltq;try refine zU ?_)|(refine LS.nilQ ?_;try with_reducible intro nq hnq;try refine zU ?_))
      refine ⟨by omega, by (repeat first | exact trivial | refine And.intro rfl ?_), Drops.keepc rfl rfl (fun _ _ => rfl) (Drops.keepc rfl rfl (fun _ _ => rfl) (Drops.setc hb (fun q hq => congrFun (splice_put K.c (bys (pl p v k w)) o i) q))), trivial⟩
    · have : i = 8 := by omega
      subst this
      (repeat first|refine zG ?_|(refine LS.nilO ?_;intro nq hnq hltq;try refine zU ?_)|(refine MS.new ?_;intro bq hbq hbqf;try refine zU ?_)|(refine MS.nil ?_;intro nq hnq hltq;have hlq:=hltq _ _ (Hp.get_eq _ _ _);clear hltq;try refine zU ?_)|(refine LS.nilQ ?_;try with_reducible intro nq hnq;try refine zU ?_))
      try simp only [↓reduceIte]
      (repeat first|refine zG ?_|(refine LS.nilO ?_;intro nq hnq hltq;try refine zU ?_)|(refine MS.new ?_;intro bq hbq hbqf;try refine zU ?_)|(refine MS.nil ?_;intro nq hnq hltq;have hlq:=hltq _ _ (Hp.get_eq _ _ _);clear hltq;try refine zU ?_)|(refine LS.nilQ ?_;try with_reducible intro nq hnq;try refine zU ?_))
      exact ⟨.tup [], H.set b (splice K.c o 8 (bys (pl p v k w))), rfl, Drops.drop (by omega) (Hp.get_set_none _ (hf _ (by omega))) (Drops.drop (by omega) (Hp.get_set_none _ (hf _ (by omega))) (Drops.refl _ _)), rfl, rfl⟩
/-- (*impl.Hopf).product1312$1$1 -/
def ir98 : Cd := (.seq (.drw true [] [⟨some 14,none,.ld none (.t 3)⟩,⟨some 15,none,.ld none (.t 4)⟩,⟨some 16,none,.mov (.t 0)⟩,⟨some 17,none,.ck (.t 14)⟩,⟨some 18,none,.fa 10 (.t 17)⟩,⟨some 19,none,.ia 8 64 (.t 18) (.t 15)⟩,⟨some 20,none,.ia 8 8 (.t 19) (.t 16)⟩,⟨some 21,none,.ld (some 8) (.t 20)⟩,⟨some 22,none,.mov (.c (.int .i64 0))⟩]) (.block 0 (.loop (.seq (.reg [⟨some 23,none,.bin .lss (.t 22) (.c (.int .i64 8))⟩]) (.seq (.cond (.t 23) .skip (.exit 0)) (.seq (.block 1 (.seq (.reg [⟨some 24,none,.mov (.t 22)⟩,⟨some 25,none,.ix 8 1 none (.t 21) (.t 22)⟩,⟨some 12,none,.mov (.t 24)⟩,⟨some 13,none,.mov (.t 25)⟩]) (.drw true [26] [⟨some 26,none,.mov (.t 12)⟩,⟨some 27,none,.mov (.t 1)⟩,⟨some 28,none,.ld none (.t 7)⟩,⟨some 29,none,.ld (some 2) (.t 5)⟩,⟨some 30,none,.mov (.t 12)⟩,⟨some 31,none,.mov (.t 1)⟩,⟨some 32,none,.ld none (.t 7)⟩,⟨some 33,none,.ia 8 64 (.t 6) (.t 30)⟩,⟨some 34,none,.ia 8 8 (.t 33) (.t 31)⟩,⟨some 35,none,.ia 8 1 (.t 34) (.t 32)⟩,⟨some 36,none,.ld none (.t 35)⟩,⟨some 37,none,.cv .i64 (.t 36)⟩,⟨some 38,none,.ld none (.t 8)⟩,⟨some 39,none,.mov (.t 2)⟩,⟨some 40,none,.bin .mul (.t 38) (.t 39)⟩,⟨some 41,none,.fa 0 (.t 5)⟩,⟨some 42,none,.ld none (.t 41)⟩,⟨some 43,none,.bin .rem (.t 40) (.t 42)⟩,⟨some 44,none,.mov (.t 13)⟩,⟨some 45,none,.cv .i64 (.t 44)⟩,⟨some 46,none,.bin .mul (.t 43) (.t 45)⟩,⟨some 47,none,.bin .add (.t 37) (.t 46)⟩,⟨some 48,none,.call 82 [(.t 29),(.t 47)]⟩,⟨some 49,none,.ia 8 64 (.t 6) (.t 26)⟩,⟨some 50,none,.ia 8 8 (.t 49) (.t 27)⟩,⟨some 51,none,.ia 8 1 (.t 50) (.t 28)⟩,⟨none,none,.st 1 (.t 51) (.t 48)⟩]))) (.reg [⟨some 52,none,.bin .add (.t 22) (.c (.int .i64 1))⟩,⟨some 22,none,.mov (.t 52)⟩])))))))
set_option maxRecDepth 100000 in
theorem tr98 : trFn Tryz.prog Tryz.f98 = some (53, ir98, []) := by kernel_rfl
theorem Hopf_product1312_2 (h : HT) (a : Nat) (s : Nat → Int) (t t2 i1 c1 i2 c2 : Nat) (ht : t = 8 * i1 + c1) (hi1 : i1 < 8) (hc1 : c1 < 8) (ht2 : t2 = 8 * i2 + c2) (hi2 : i2 < 8) (hc2 : c2 < 8)
    (b bh ba bf bo bx bc : Nat) (K Kh Ka Kx Kc : Blk) (H : Hp) (n : Nat) (hS : HS h a) (hb : H.get b = some K) (hsz : K.size = 1106) (hK : h.At K.c) (hB : h.By) (hs : isBy 64 s)
    (gh : H.get bh = some Kh) (sh : Kh.size = 1) (ch : Kh.c 0 = .ptr b 0) (ga : H.get ba = some Ka) (sa : Ka.size = 1) (ca : Ka.c 0 = .int .i64 i1) (gf : H.get bf = some ⟨2, fldC h.p a, 85⟩)
    (go : H.get bo = some ⟨512, bys (q12 h.p h.m s t t2), 33⟩) (gx : H.get bx = some Kx) (sx : Kx.size = 1) (cx : Kx.c 0 = .int .i64 (s t)) (gc : H.get bc = some Kc) (sc : Kc.size = 1) (cc : Kc.c 0 = .int .i64 c1)
    (d1 : bo ≠ b) (d2 : bo ≠ bh) (d3 : bo ≠ ba) (d4 : bo ≠ bf) (d5 : bo ≠ bx) (d6 : bo ≠ bc) :
    FnS Tryz.prog 98 [i64 i2, i64 c2, i64 (s t2), ptr bh 0, ptr ba 0, ptr bf 0, ptr bo 0, ptr bc 0, ptr bx 0] H n (fun _ H' _ => H' = H.set bo (bys (q12 h.p h.m s t (t2 + 1)))) := by
  have hp := hS.hp
  have ha := hS.ha
  have hk5 := hK.m
  have hst := hs t (by omega)
  have hst2 := hs t2 (by omega)
  have hAB := mulB hst.1 hst.2 hst2.1 hst2.2
  have hr := modB (s t * s t2) hp.1
  have hs0 : H.set bo (bys (q12 h.p h.m s t t2)) = H := Hp.set_self go
  refine FnS.of_body Tryz.func98 tr98 (by simp) (fun hf => ?_)
  dsimp only [argEnv]
  unfold ir98
  have hbn := getlt hf hb
  (repeat first|refine zG ?_|(refine LS.nilO ?_;intro nq hnq hltq;try refine zU ?_)|(refine MS.new ?_;intro bq hbq hbqf;try refine zU ?_)|(refine MS.nil ?_;intro nq hnq hltq;have hlq:=hltq _ _ (Hp.get_eq _ _ _);clear hltq;try refine zU ?_)|(refine LS.nilQ ?_;try with_reducible intro nq hnq;try refine zU ?_))
  refine CS.iter 8 (fun i => [(22, i64 i), (21, .arr 8 (bys (fun x => h.m (64 * i1 + 8 * i2 + x)))), (1, i64 c2), (2, i64 (s t2)), (5, ptr bf 0), (6, ptr bo 0), (7, ptr bc 0), (8, ptr bx 0)])
    (fun i => H.set bo (bys (tabsTo (q12 h.p h.m s t t2) (q12 h.p h.m s t (t2 + 1)) i))) (fun _ => True) (by (repeat first | exact trivial | refine And.intro rfl ?_)) (by rw [tabsTo_zero, hs0]; exact Drops.refl _ _) trivial ?_
  intro i n3 hi hn _
  (repeat first|refine zG ?_|(refine LS.nilO ?_;intro nq hnq hltq;try refine zU ?_)|(refine MS.new ?_;intro bq hbq hbqf;try refine zU ?_)|(refine MS.nil ?_;intro nq hnq hltq;have hlq:=hltq _ _ (Hp.get_eq _ _ _);clear hltq;try refine zU ?_)|(refine LS.nilQ ?_;try with_reducible intro nq hnq;try refine zU ?_))
  refine zI ?_ ?_<;>intro h2
  · have hz := hB.m (64 * i1 + 8 * i2 + i) (by omega)
    have hzz := mulB hr.1 (show _ ≤ 31 by omega) hz.1 hz.2
    have hq := q12_res hp.1 h.m s t t2 (64 * i + 8 * c2 + c1 + 1) (64 * i + 8 * c2 + c1) (by omega)
    have hv : bys (tabsTo (q12 h.p h.m s t t2) (q12 h.p h.m s t (t2 + 1)) i) (64 * i + (8 * c2 + c1)) = .int .u8 (q12 h.p h.m s t t2 (64 * i + 8 * c2 + c1)) := by simp only [bys, tabsTo]; rw [if_neg (by omega), Nat.add_assoc]
    (repeat first|refine zG ?_|(refine LS.nilO ?_;intro nq hnq hltq;try refine zU ?_)|(refine MS.new ?_;intro bq hbq hbqf;try refine zU ?_)|(refine MS.nil ?_;intro nq hnq hltq;have hlq:=hltq _ _ (Hp.get_eq _ _ _);clear hltq;try refine zU ?_)|(refine LS.nilQ ?_;try with_reducible intro nq hnq;try refine zU ?_))
    refine LS.callQ (u8 (q12 h.p h.m s t (t2 + 1) (64 * i + 8 * c2 + c1))) rfl (fun n' hn' => (field_mod h.p a (q12 h.p h.m s t t2 (64 * i + 8 * c2 + c1) + s t * s t2 % h.p * h.m (64 * i1 + 8 * i2 + i)) _ _ hp.1 hp.2 (by omega)).mono ?_) ?_
    · rintro r H' n4 hn4 ⟨rfl, rfl⟩
      exact ⟨by rw [ht, ht2, ← q12_step _ _ _ _ _ _ _ _ hc1 hc2], rfl⟩
    (repeat first|refine zG ?_|(refine LS.nilO ?_;intro nq hnq hltq;try refine zU ?_)|(refine MS.new ?_;intro bq hbq hbqf;try refine zU ?_)|(refine MS.nil ?_;intro nq hnq hltq;have hlq:=hltq _ _ (Hp.get_eq _ _ _);clear hltq;try refine zU ?_)|(refine LS.nilQ ?_;try with_reducible intro nq hnq;try refine zU ?_))
    refine ⟨by omega, by (repeat first | exact trivial | refine And.intro rfl ?_), Drops.setc go (fun q hq => ?_), trivial⟩
    exact tabsTo_cell (r := 8 * c2 + c1) (by omega) (fun q hq => by rw [ht, ht2]; exact q12_else hc1 hc2 hq) (by rw [← Nat.add_assoc]) q
  · have : i = 8 := by omega
    subst this
    (repeat first|refine zG ?_|(refine LS.nilO ?_;intro nq hnq hltq;try refine zU ?_)|(refine MS.new ?_;intro bq hbq hbqf;try refine zU ?_)|(refine MS.nil ?_;intro nq hnq hltq;have hlq:=hltq _ _ (Hp.get_eq _ _ _);clear hltq;try refine zU ?_)|(refine LS.nilQ ?_;try with_reducible intro nq hnq;try refine zU ?_))
    exact ⟨_, _, rfl, Drops.setc go (fun q hq => by unfold bys tabsTo; rw [if_pos (by omega)]), rfl⟩
/-- spec.l09Parts -/
def ir72 : Cd := (.seq (.reg [⟨some 4,none,.box 35 (.t 0)⟩,⟨some 5,none,.box 29 (.t 1)⟩,⟨some 8,none,.new 33 [(512,(.int .u8 0))]⟩]) (.seq (.reg [⟨some 16,none,.fa 1 (.t 4)⟩,⟨some 17,none,.ld none (.t 16)⟩,⟨some 18,none,.build 512 [(512,(.int .u8 0))] []⟩,⟨some 10,none,.new 33 [(512,(.int .u8 0))]⟩,⟨some 9,none,.mov (.t 17)⟩,⟨none,none,.st 512 (.t 10) (.t 18)⟩]) (.seq (.seq (.reg [⟨some 11,none,.mov (.c (.int .i64 0))⟩]) (.block 0 (.loop (.seq (.seq (.reg [⟨some 19,none,.mov (.t 11)⟩,⟨some 20,none,.mov (.t 9)⟩,⟨some 21,none,.bin .lss (.t 19) (.t 20)⟩]) (.cond (.t 21) .skip (.exit 0))) (.seq (.block 1 (.seq (.reg [⟨some 12,none,.mov (.c (.int .i64 0))⟩]) (.block 2 (.loop (.seq (.seq (.reg [⟨some 24,none,.mov (.t 12)⟩,⟨some 25,none,.mov (.t 9)⟩,⟨some 26,none,.bin .lss (.t 24) (.t 25)⟩]) (.cond (.t 26) .skip (.exit 2))) (.seq (.block 3 (.seq (.reg [⟨some 13,none,.mov (.c (.int .i64 0))⟩]) (.block 4 (.loop (.seq (.seq (.reg [⟨some 29,none,.mov (.t 13)⟩,⟨some 30,none,.mov (.t 9)⟩,⟨some 31,none,.bin .lss (.t 29) (.t 30)⟩]) (.cond (.t 31) .skip (.exit 4))) (.seq (.block 5 (.seq (.reg [⟨some 34,none,.mov (.t 13)⟩,⟨some 35,none,.mov (.t 13)⟩,⟨some 36,none,.mov (.t 13)⟩,⟨some 37,none,.build 3 [(3,(.int .i64 0))] [(0,1,(.t 34)),(1,1,(.t 35)),(2,1,(.t 36))]⟩,⟨some 14,none,.new 119 [(3,(.int .i64 0))]⟩,⟨none,none,.st 3 (.t 14) (.t 37)⟩]) (.seq (.reg [⟨some 38,none,.mov (.t 2)⟩,⟨some 39,none,.mov (.t 11)⟩,⟨some 40,none,.ia 3 1 (.t 14) (.t 38)⟩,⟨none,none,.st 1 (.t 40) (.t 39)⟩]) (.seq (.reg [⟨some 41,none,.mov (.t 3)⟩,⟨some 42,none,.mov (.t 12)⟩,⟨some 43,none,.ia 3 1 (.t 14) (.t 41)⟩,⟨none,none,.st 1 (.t 43) (.t 42)⟩]) (.seq (.drw true [14] [⟨some 44,none,.fa 0 (.t 4)⟩,⟨some 45,none,.ld none (.t 44)⟩,⟨some 46,none,.mov (.t 11)⟩,⟨some 47,none,.mov (.t 12)⟩,⟨some 48,none,.ia 8 8 (.t 5) (.t 46)⟩,⟨some 49,none,.ia 8 1 (.t 48) (.t 47)⟩,⟨some 50,none,.ld none (.t 49)⟩,⟨some 51,none,.cv .i64 (.t 50)⟩,⟨some 52,none,.mov (.t 13)⟩,⟨some 53,none,.fa 2 (.t 4)⟩,⟨some 54,none,.ia 8 1 (.t 53) (.t 52)⟩,⟨some 55,none,.ld none (.t 54)⟩,⟨some 56,none,.cv .i64 (.t 55)⟩,⟨some 57,none,.bin .mul (.t 51) (.t 56)⟩,⟨some 58,none,.call 77 [(.t 45),(.t 57)]⟩,⟨some 15,none,.mov (.t 58)⟩]) (.seq (.reg [⟨some 59,none,.mov (.t 15)⟩,⟨some 60,none,.bin .neq (.t 59) (.c (.int .u8 0))⟩]) (.cond (.t 60) (.drw true [10] [⟨some 61,none,.ia 3 1 (.t 14) (.c (.int .i64 0))⟩,⟨some 62,none,.ld none (.t 61)⟩,⟨some 63,none,.ia 3 1 (.t 14) (.c (.int .i64 1))⟩,⟨some 64,none,.ld none (.t 63)⟩,⟨some 65,none,.ia 3 1 (.t 14) (.c (.int .i64 2))⟩,⟨some 66,none,.ld none (.t 65)⟩,⟨some 67,none,.mov (.t 15)⟩,⟨some 68,none,.ia 8 64 (.t 10) (.t 62)⟩,⟨some 69,none,.ia 8 8 (.t 68) (.t 64)⟩,⟨some 70,none,.ia 8 1 (.t 69) (.t 66)⟩,⟨none,none,.st 1 (.t 70) (.t 67)⟩]) .skip))))))) (.reg [⟨some 32,none,.mov (.t 13)⟩,⟨some 33,none,.bin .add (.t 32) (.c (.int .i64 1))⟩,⟨some 13,none,.mov (.t 33)⟩]))))))) (.reg [⟨some 27,none,.mov (.t 12)⟩,⟨some 28,none,.bin .add (.t 27) (.c (.int .i64 1))⟩,⟨some 12,none,.mov (.t 28)⟩]))))))) (.reg [⟨some 22,none,.mov (.t 11)⟩,⟨some 23,none,.bin .add (.t 22) (.c (.int .i64 1))⟩,⟨some 11,none,.mov (.t 23)⟩])))))) (.seq (.reg [⟨some 71,none,.ld (some 512) (.t 10)⟩,⟨none,none,.st 512 (.t 8) (.t 71)⟩]) .ret))))
set_option maxRecDepth 100000 in
theorem tr72 : trFn Tryz.prog Tryz.f72 = some (72, ir72, [.cell (some 512) 8]) := by kernel_rfl
theorem spec_l09Parts (h : HT) (a : Nat) (s f : Nat → Int) (one other : Nat) (A0 A1 A2 : Nat → Nat → Nat → Nat) (R : Nat → Nat) (K : Nat → SV) (H : Hp) (n : Nat) (hS : HS h a) (hK : h.At K) (hB : h.By) (hs : isBy 64 s) (hz : lz a s)
    (hP : PT one other A0 A1 A2 R) (hf0 : ∀ j k u, j < 8 → k < 8 → u < 8 → f (64 * A0 j k u + 8 * A1 j k u + A2 j k u) = s (8 * j + k) * h.u u % h.p) :
    FnS Tryz.prog 72 [.arr 1106 K, .arr 64 (bys s), i64 one, i64 other] H n (fun r H' _ => r = .arr 512 (bys f) ∧ H' = H) := by
  have hp := hS.hp
  have ha := hS.ha
  have hk0 := hK.p
  have hk1 := hK.n
  rw [hS.hn] at hk1
  have hk5 := hK.u
  have ho1 := hP.h1
  have ho2 := hP.h2
  refine FnS.of_body Tryz.func72 tr72 (by simp) (fun hf => ?_)
  dsimp only [argEnv]
  unfold ir72
  (repeat first|refine zG ?_|(refine LS.nilO ?_;intro nq hnq hltq;try refine zU ?_)|(refine MS.new ?_;intro bq hbq hbqf;try refine zU ?_)|(refine MS.nil ?_;intro nq hnq hltq;have hlq:=hltq _ _ (Hp.get_eq _ _ _);clear hltq;try refine zU ?_)|(refine LS.nilQ ?_;try with_reducible intro nq hnq;try refine zU ?_))
  refine CS.iter a (fun j => [(11, i64 j), (2, i64 one), (3, i64 other), (4, ptr n 0), (5, ptr (n + 1) 0), (8, ptr (n + 2) 0), (9, i64 a), (10, ptr (n + 3) 0)])
    (fun j => (n + 3, ⟨512, bys (sel R f (64 * j)), 33⟩) :: (n + 2, ⟨512, bys (fun _ => 0), 33⟩) :: (n + 1, ⟨64, bys s, 29⟩) :: (n, ⟨1106, K, 35⟩) :: H) (fun _ => True) (by (repeat first | exact trivial | refine And.intro rfl ?_))
    (Drops.keepc rfl rfl (fun _ _ => by rw [show sel R f (64 * 0) = fun _ => 0 from sel_zero _ _]; rfl) (Drops.keepc rfl rfl (fun _ _ => rfl) (Drops.refl _ _))) trivial ?_
  intro j n3 hj hn _
  (repeat first|refine zG ?_|(refine LS.nilO ?_;intro nq hnq hltq;try refine zU ?_)|(refine MS.new ?_;intro bq hbq hbqf;try refine zU ?_)|(refine MS.nil ?_;intro nq hnq hltq;have hlq:=hltq _ _ (Hp.get_eq _ _ _);clear hltq;try refine zU ?_)|(refine LS.nilQ ?_;try with_reducible intro nq hnq;try refine zU ?_))
  refine zI ?_ ?_<;>intro h2
  · (repeat first|refine zG ?_|(refine LS.nilO ?_;intro nq hnq hltq;try refine zU ?_)|(refine MS.new ?_;intro bq hbq hbqf;try refine zU ?_)|(refine MS.nil ?_;intro nq hnq hltq;have hlq:=hltq _ _ (Hp.get_eq _ _ _);clear hltq;try refine zU ?_)|(refine LS.nilQ ?_;try with_reducible intro nq hnq;try refine zU ?_))
    refine CS.iter a (fun k => [(12, i64 k), (11, i64 j), (2, i64 one), (3, i64 other), (4, ptr n 0), (5, ptr (n + 1) 0), (8, ptr (n + 2) 0), (9, i64 a), (10, ptr (n + 3) 0)])
      (fun k => (n + 3, ⟨512, bys (sel R f (64 * j + 8 * k)), 33⟩) :: (n + 2, ⟨512, bys (fun _ => 0), 33⟩) :: (n + 1, ⟨64, bys s, 29⟩) :: (n, ⟨1106, K, 35⟩) :: H) (fun _ => True) (by (repeat first | exact trivial | refine And.intro rfl ?_)) (Drops.refl _ _) trivial ?_
    intro k n4 hk hn4 _
    (repeat first|refine zG ?_|(refine LS.nilO ?_;intro nq hnq hltq;try refine zU ?_)|(refine MS.new ?_;intro bq hbq hbqf;try refine zU ?_)|(refine MS.nil ?_;intro nq hnq hltq;have hlq:=hltq _ _ (Hp.get_eq _ _ _);clear hltq;try refine zU ?_)|(refine LS.nilQ ?_;try with_reducible intro nq hnq;try refine zU ?_))
    refine zI ?_ ?_<;>intro h3
    · (repeat first|refine zG ?_|(refine LS.nilO ?_;intro nq hnq hltq;try refine zU ?_)|(refine MS.new ?_;intro bq hbq hbqf;try refine zU ?_)|(refine MS.nil ?_;intro nq hnq hltq;have hlq:=hltq _ _ (Hp.get_eq _ _ _);clear hltq;try refine zU ?_)|(refine LS.nilQ ?_;try with_reducible intro nq hnq;try refine zU ?_))
      refine CS.iter a (fun u => [(13, i64 u), (12, i64 k), (11, i64 j), (2, i64 one), (3, i64 other), (4, ptr n 0), (5, ptr (n + 1) 0), (8, ptr (n + 2) 0), (9, i64 a), (10, ptr (n + 3) 0)])
        (fun u => (n + 3, ⟨512, bys (sel R f (64 * j + 8 * k + u)), 33⟩) :: (n + 2, ⟨512, bys (fun _ => 0), 33⟩) :: (n + 1, ⟨64, bys s, 29⟩) :: (n, ⟨1106, K, 35⟩) :: H) (fun _ => True) (by (repeat first | exact trivial | refine And.intro rfl ?_)) (Drops.refl _ _) trivial ?_
      intro u n5 hu hn5 _
      (repeat first|refine zG ?_|(refine LS.nilO ?_;intro nq hnq hltq;try refine zU ?_)|(refine MS.new ?_;intro bq hbq hbqf;try refine zU ?_)|(refine MS.nil ?_;intro nq hnq hltq;have hlq:=hltq _ _ (Hp.get_eq _ _ _);clear hltq;try refine zU ?_)|(refine LS.nilQ ?_;try with_reducible intro nq hnq;try refine zU ?_))
      refine zI ?_ ?_<;>intro h4
      · have hsj := hs (8 * j + k) (by omega)
        have huu := hB.u u (by omega)
        have hsu := mulB hsj.1 hsj.2 huu.1 huu.2
        have hrs := modB (s (8 * j + k) * h.u u) hp.1
        obtain ⟨l0, l1, l2⟩ := hP.lt j k u (by omega) (by omega) (by omega)
        have hcc : ∀ q, q < 3 → put1 (put1 (put1 (Zs.c [(3, SV.int IntKind.i64 0)]) 0 (SV.int IntKind.i64 u)) 1 (SV.int IntKind.i64 u)) 2 (SV.int IntKind.i64 u) q = .int .i64 u := fun q hq => by
          rcases (show q = 0 ∨ q = 1 ∨ q = 2 by omega) with rfl | rfl | rfl <;> rfl
        have hat0 := hP.at0 (put1 (put1 (put1 (Zs.c [(3, SV.int IntKind.i64 0)]) 0 (SV.int IntKind.i64 u)) 1 (SV.int IntKind.i64 u)) 2 (SV.int IntKind.i64 u)) j k u hcc
        have hat1 := hP.at1 (put1 (put1 (put1 (Zs.c [(3, SV.int IntKind.i64 0)]) 0 (SV.int IntKind.i64 u)) 1 (SV.int IntKind.i64 u)) 2 (SV.int IntKind.i64 u)) j k u hcc
        have hat2 := hP.at2 (put1 (put1 (put1 (Zs.c [(3, SV.int IntKind.i64 0)]) 0 (SV.int IntKind.i64 u)) 1 (SV.int IntKind.i64 u)) 2 (SV.int IntKind.i64 u)) j k u hcc
        (repeat first|refine zG ?_|(refine LS.nilO ?_;intro nq hnq hltq;try refine zU ?_)|(refine MS.new ?_;intro bq hbq hbqf;try refine zU ?_)|(refine MS.nil ?_;intro nq hnq hltq;have hlq:=hltq _ _ (Hp.get_eq _ _ _);clear hltq;try refine zU ?_)|(refine LS.nilQ ?_;try with_reducible intro nq hnq;try refine zU ?_))
        refine RS.call rfl ((spec_l01Mod h.p (s (8 * j + k) * h.u u) _ _ hp.1 hp.2 (by omega)).mono ?_)
        rintro r H' n6 hn6 ⟨rfl, rfl⟩
        (repeat first|refine zG ?_|(refine LS.nilO ?_;intro nq hnq hltq;try refine zU ?_)|(refine MS.new ?_;intro bq hbq hbqf;try refine zU ?_)|(refine MS.nil ?_;intro nq hnq hltq;have hlq:=hltq _ _ (Hp.get_eq _ _ _);clear hltq;try refine zU ?_)|(refine LS.nilQ ?_;try with_reducible intro nq hnq;try refine zU ?_))
        have hF := hf0 j k u (by omega) (by omega) (by omega)
        have hR := hP.rk j k u (by omega) (by omega) (by omega)
        have hU := fun q hq => hP.un j k u q (by omega) (by omega) (by omega) hq
        rw [Nat.add_assoc] at hF hR
        refine zI ?_ ?_<;>intro h5
        · (repeat first|refine zG ?_|(refine LS.nilO ?_;intro nq hnq hltq;try refine zU ?_)|(refine MS.new ?_;intro bq hbq hbqf;try refine zU ?_)|(refine MS.nil ?_;intro nq hnq hltq;have hlq:=hltq _ _ (Hp.get_eq _ _ _);clear hltq;try refine zU ?_)|(refine LS.nilQ ?_;try with_reducible intro nq hnq;try refine zU ?_))
          exact ⟨by omega, by (repeat first | exact trivial | refine And.intro rfl ?_), Drops.drop (by omega) (by simp (disch := omega) only [Hp.get_ne]; exact hf _ (by omega)) (Drops.keepc rfl rfl (fun q hq => sel_step hR q (fun e => by rw [hU q hq e, Nat.add_assoc]) hF.symm) (Drops.refl _ _)), trivial⟩
        · (repeat first|refine zG ?_|(refine LS.nilO ?_;intro nq hnq hltq;try refine zU ?_)|(refine MS.new ?_;intro bq hbq hbqf;try refine zU ?_)|(refine MS.nil ?_;intro nq hnq hltq;have hlq:=hltq _ _ (Hp.get_eq _ _ _);clear hltq;try refine zU ?_)|(refine LS.nilQ ?_;try with_reducible intro nq hnq;try refine zU ?_))
          refine ⟨by omega, by (repeat first | exact trivial | refine And.intro rfl ?_), Drops.drop (by omega) (by simp (disch := omega) only [Hp.get_ne]; exact hf _ (by omega)) (Drops.keepc rfl rfl (fun q hq => ?_) (Drops.refl _ _)), trivial⟩
          unfold bys; dsimp only
          rw [sel_more (N' := 64 * j + 8 * k + (u + 1)) (by omega) (fun h1 h2 => by rw [hU q hq (by omega), Nat.add_assoc, hF]; omega)]
      · have : u = a := by omega
        subst this
        (repeat first|refine zG ?_|(refine LS.nilO ?_;intro nq hnq hltq;try refine zU ?_)|(refine MS.new ?_;intro bq hbq hbqf;try refine zU ?_)|(refine MS.nil ?_;intro nq hnq hltq;have hlq:=hltq _ _ (Hp.get_eq _ _ _);clear hltq;try refine zU ?_)|(refine LS.nilQ ?_;try with_reducible intro nq hnq;try refine zU ?_))
        exact ⟨by omega, by (repeat first | exact trivial | refine And.intro rfl ?_), Drops.keepc rfl rfl (fun q hq => by
          unfold bys; dsimp only
          rw [sel_more (N' := 64 * j + 8 * (k + 1)) (by omega) (fun h1 h2 => by
            have e := hP.un j k (R q - (64 * j + 8 * k)) q (by omega) (by omega) (by omega) hq (by omega)
            rw [e, hf0 j k _ (by omega) (by omega) (by omega), hS.um _ (by omega) (by omega), Int.mul_zero, Int.zero_emod])]) (Drops.refl _ _), trivial⟩
    · have : k = a := by omega
      subst this
      (repeat first|refine zG ?_|(refine LS.nilO ?_;intro nq hnq hltq;try refine zU ?_)|(refine MS.new ?_;intro bq hbq hbqf;try refine zU ?_)|(refine MS.nil ?_;intro nq hnq hltq;have hlq:=hltq _ _ (Hp.get_eq _ _ _);clear hltq;try refine zU ?_)|(refine LS.nilQ ?_;try with_reducible intro nq hnq;try refine zU ?_))
      exact ⟨by omega, by (repeat first | exact trivial | refine And.intro rfl ?_), Drops.keepc rfl rfl (fun q hq => by
        unfold bys; dsimp only
        rw [sel_more (N' := 64 * (j + 1)) (by omega) (fun h1 h2 => by
          have e := hP.un j ((R q - 64 * j) / 8) ((R q - 64 * j) % 8) q (by omega) (by omega) (by omega) hq (by omega)
          rw [e, hf0 j _ _ (by omega) (by omega) (by omega), hz j _ (by omega) (by omega) (.inr (by omega)), Int.zero_mul, Int.zero_emod])]) (Drops.refl _ _), trivial⟩
  · have : j = a := by omega
    subst this
    (repeat first|refine zG ?_|(refine LS.nilO ?_;intro nq hnq hltq;try refine zU ?_)|(refine MS.new ?_;intro bq hbq hbqf;try refine zU ?_)|(refine MS.nil ?_;intro nq hnq hltq;have hlq:=hltq _ _ (Hp.get_eq _ _ _);clear hltq;try refine zU ?_)|(refine LS.nilQ ?_;try with_reducible intro nq hnq;try refine zU ?_))
    exact ⟨.arr 512 (bys f), H, conc_arr (fun q hq => by
      simp only [Nat.zero_add, bys]
      have hr := hP.rl q hq
      unfold sel
      split
      · rfl
      · rename_i h1
        have e := hP.un (R q / 64) (R q % 64 / 8) (R q % 8) q (by omega) (by omega) (by omega) hq (by omega)
        rw [e, hf0 _ _ _ (by omega) (by omega) (by omega), hz _ _ (by omega) (by omega) (.inl (by omega)), Int.zero_mul, Int.zero_emod]), by exact zD, rfl, rfl⟩
theorem impl_first2 (b c : Nat) (x y : Int) (K : Blk) (H : Hp) (n : Nat) (hb : H.get b = some K) (hs : K.size = 2) (h0 : K.c 0 = .int .i64 x) (h1 : K.c 1 = .int .i64 y) :
    FnS Tryz.prog 39 [.s (.slc b 0 2 c)] H n (fun r H' _ => r = i64 (if x ≠ 0 then x else y) ∧ H' = H) := by
  rw [← fstz2]
  exact impl_first _ 2 (by omega) (twi x y) H n ⟨b, c, K, rfl, hb, hs, fun q hq => by
    rcases (show q = 0 ∨ q = 1 by omega) with rfl | rfl
    · exact h0
    · exact h1⟩
end Go.Proofs.YtbknndbfbebkdabGreatR
