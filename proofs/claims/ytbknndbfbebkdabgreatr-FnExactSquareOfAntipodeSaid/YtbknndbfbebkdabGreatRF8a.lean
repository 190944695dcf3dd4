/- Contracts of the program's functions. -/
import Derived.Test.YtbknndbfbebkdabGreatRR
import Derived.Test.YtbknndbfbebkdabGreatRLW
import Derived.Test.YtbknndbfbebkdabGreatRF7a
import Derived.Test.YtbknndbfbebkdabGreatRF7b
namespace Go.Proofs.YtbknndbfbebkdabGreatR
open Go.V
set_option linter.unusedSimpArgs false
set_option linter.unusedVariables false
set_option maxHeartbeats 4000000
/-- impl.SquareOfAntipode -/
def ir16 : Cd := (.seq (.reg [⟨some 2,none,.box 35 (.t 0)⟩,⟨some 3,none,.box 29 (.t 1)⟩,⟨some 4,none,.mov (.c (.bool false))⟩,⟨some 5,none,.mov (.c (.int .i64 0))⟩]) (.seq (.seq (.reg [⟨some 9,none,.call 24 [(.t 2),(.t 3)]⟩,⟨some 6,none,.mov (.t 9)⟩]) (.seq (.reg [⟨some 10,none,.mov (.t 6)⟩,⟨some 11,none,.bin .neq (.t 10) (.c (.int .i64 0))⟩]) (.cond (.t 11) (.seq (.reg [⟨some 12,none,.mov (.t 6)⟩,⟨some 4,none,.mov (.c (.bool false))⟩,⟨some 5,none,.mov (.t 12)⟩]) .ret) .skip))) (.seq (.reg [⟨some 13,none,.call 27 [(.t 2),(.t 3)]⟩,⟨some 7,none,.new 27 [(8,(.int .u8 0))]⟩,⟨none,none,.st 8 (.t 7) (.t 13)⟩]) (.seq (.seq (.reg [⟨some 14,none,.fa 1 (.t 2)⟩,⟨some 15,none,.ld none (.t 14)⟩,⟨some 16,none,.mov (.c (.int .i64 0))⟩]) (.block 0 (.loop (.seq (.reg [⟨some 17,none,.bin .lss (.t 16) (.t 15)⟩]) (.seq (.cond (.t 17) .skip (.exit 0)) (.seq (.block 1 (.seq (.reg [⟨some 18,none,.mov (.t 16)⟩,⟨some 8,none,.mov (.t 18)⟩]) (.seq (.drwo true [10] [0,1,2,3,5,7,8,4,6,9,10,11] [⟨some 19,none,.mov (.t 8)⟩,⟨some 20,none,.fa 1042 (.t 2)⟩,⟨some 21,none,.ia 8 8 (.t 20) (.t 19)⟩,⟨some 22,none,.ld (some 8) (.t 21)⟩,⟨some 23,none,.call 33 [(.t 2),(.t 22)]⟩,⟨some 24,none,.ld (some 8) (.t 7)⟩,⟨some 25,none,.call 32 [(.t 2),(.t 23),(.t 24)]⟩,⟨some 26,none,.ld (some 8) (.t 7)⟩,⟨some 27,none,.mov (.t 8)⟩,⟨some 28,none,.call 34 [(.t 27)]⟩,⟨some 29,none,.call 32 [(.t 2),(.t 26),(.t 28)]⟩,⟨some 30,none,.eqa true 8 (.t 25) (.t 29)⟩]) (.cond (.t 30) (.seq (.reg [⟨some 4,none,.mov (.c (.bool false))⟩,⟨some 5,none,.mov (.c (.int .i64 0))⟩]) .ret) .skip)))) (.reg [⟨some 31,none,.bin .add (.t 16) (.c (.int .i64 1))⟩,⟨some 16,none,.mov (.t 31)⟩]))))))) (.seq (.reg [⟨some 4,none,.mov (.c (.bool true))⟩,⟨some 5,none,.mov (.c (.int .i64 0))⟩]) .ret)))))
set_option maxRecDepth 100000 in
theorem tr16 : trFn Tryz.prog Tryz.f16 = some (32, ir16, [.tmp 4, .tmp 5]) := by kernel_rfl
theorem impl_SquareOfAntipode (h : HT) (s : Nat → Int) (K : Nat → SV) (H : Hp) (n : Nat) (hK : h.At K) (hB : h.By) (hs : isBy 64 s) :
    FnS Tryz.prog 16 [.arr 1106 K, .arr 64 (bys s)] H n (fun r H' _ => r = .tup [bl (tb ((mok h 1 (fun _ => s) ∧ cnd h h.N s = 0) ∧ ∀ i, i < h.N → sqE h (drf h.p h.m h.s s h.N 64) h.N i)), i64 (sc5 (mok h 1 (fun _ => s)) (cnd h h.N s = 0))] ∧ H' = H) := by
  have hk0 := hK.p
  have hk1 := hK.n
  have hk2 := hK.s
  refine FnS.of_body Tryz.func16 tr16 (by simp) (fun hf => ?_)
  dsimp only [argEnv]
  unfold ir16
  (repeat first|refine zG ?_|(refine LS.nilO ?_;intro nq hnq hltq;try refine zU ?_)|(refine MS.new ?_;intro bq hbq hbqf;try refine zU ?_)|(refine MS.nil ?_;intro nq hnq hltq;have hlq:=hltq _ _ (Hp.get_eq _ _ _);clear hltq;try refine zU ?_)|(refine LS.nilQ ?_;try with_reducible intro nq hnq;try refine zU ?_))
  refine RS.call rfl ((impl_universalCode h s n (n + 1) ⟨1106, K, 35⟩ ⟨64, bys s, 29⟩ _ _ (by exact zH) rfl hK hB (by exact zH) (by simp) (fun q hq => rfl) hs).mono ?_)
  rintro r H' n2 hn2 ⟨rfl, rfl⟩
  obtain ⟨c, hc⟩ : ∃ c, c = sc5 (mok h 1 (fun _ => s)) (cnd h h.N s = 0) := ⟨_, rfl⟩
  rw [← hc]
  (repeat first|refine zG ?_|(refine LS.nilO ?_;intro nq hnq hltq;try refine zU ?_)|(refine MS.new ?_;intro bq hbq hbqf;try refine zU ?_)|(refine MS.nil ?_;intro nq hnq hltq;have hlq:=hltq _ _ (Hp.get_eq _ _ _);clear hltq;try refine zU ?_)|(refine LS.nilQ ?_;try with_reducible intro nq hnq;try refine zU ?_))
  refine zI ?_ ?_<;>intro h1
  · have h3 : ¬(mok h 1 (fun _ => s) ∧ cnd h h.N s = 0) := fun q => h1 (hc.trans (sc5_zero.2 q))
    (repeat first|refine zG ?_|(refine LS.nilO ?_;intro nq hnq hltq;try refine zU ?_)|(refine MS.new ?_;intro bq hbq hbqf;try refine zU ?_)|(refine MS.nil ?_;intro nq hnq hltq;have hlq:=hltq _ _ (Hp.get_eq _ _ _);clear hltq;try refine zU ?_)|(refine LS.nilQ ?_;try with_reducible intro nq hnq;try refine zU ?_))
    exact ⟨.tup [bl (tb ((mok h 1 (fun _ => s) ∧ cnd h h.N s = 0) ∧ ∀ i, i < h.N → sqE h (drf h.p h.m h.s s h.N 64) h.N i)), i64 (sc5 (mok h 1 (fun _ => s)) (cnd h h.N s = 0))], H, conc_tup2 (by rw [tb_false (fun q => h3 q.1)]) (by rw [hc]), by exact zD, by rw [← hc], rfl⟩
  · have h4 : mok h 1 (fun _ => s) ∧ cnd h h.N s = 0 := sc5_zero.1 (hc.symm.trans h1)
    have h3 : mok h 1 (fun _ => s) := h4.1
    obtain ⟨a, hS⟩ := isHopf.hs h3.1
    have hN := hS.N
    subst hN
    have hz0 := h3.lz hS (show 0 < 1 by omega)
    have hp := hS.hp
    have ha := hS.ha
    rw [hS.hn] at hk1
    obtain ⟨u, hu⟩ : ∃ u, u = drf h.p h.m h.s s h.N 64 := ⟨_, rfl⟩
    have hub : isBy 8 u := by rw [hu]; exact (drf_res hp.1 _ _ _ _ _ 8).by hp.2
    (repeat first|refine zG ?_|(refine LS.nilO ?_;intro nq hnq hltq;try refine zU ?_)|(refine MS.new ?_;intro bq hbq hbqf;try refine zU ?_)|(refine MS.nil ?_;intro nq hnq hltq;have hlq:=hltq _ _ (Hp.get_eq _ _ _);clear hltq;try refine zU ?_)|(refine LS.nilQ ?_;try with_reducible intro nq hnq;try refine zU ?_))
    refine RS.call rfl ((Hopf_drinfeld h h.N s n (n + 1) 0 ⟨1106, K, 35⟩ ⟨64, bys s, 29⟩ _ _ hS (by exact zH) rfl hK hB (by exact zH) (by simp) (fun q hq => by rw [Nat.zero_add]; rfl) hs).mono ?_)
    rw [← hu]
    rintro r H' n3 hn3 ⟨rfl, rfl⟩
    (repeat first|refine zG ?_|(refine LS.nilO ?_;intro nq hnq hltq;try refine zU ?_)|(refine MS.new ?_;intro bq hbq hbqf;try refine zU ?_)|(refine MS.nil ?_;intro nq hnq hltq;have hlq:=hltq _ _ (Hp.get_eq _ _ _);clear hltq;try refine zU ?_)|(refine LS.nilQ ?_;try with_reducible intro nq hnq;try refine zU ?_))
    refine CS.iter h.N (fun i => [(16, i64 i), (15, i64 h.N), (2, ptr n 0), (3, ptr (n + 1) 0), (7, ptr n3 0)]) (fun i => (n3, ⟨8, bys u, 27⟩) :: (n + 1, ⟨64, bys s, 29⟩) :: (n, ⟨1106, K, 35⟩) :: H) (fun i => Bx (∀ j, j < i → sqE h u h.N j)) (by (repeat first | exact trivial | refine And.intro rfl ?_)) (Drops.keepc rfl rfl (fun _ _ => rfl) (by first | exact Drops.refl _ _ | exact zD)) ⟨fun j hj => by omega⟩ ?_
    intro i n4 hi hn4 hJ
    (repeat first|refine zG ?_|(refine LS.nilO ?_;intro nq hnq hltq;try refine zU ?_)|(refine MS.new ?_;intro bq hbq hbqf;try refine zU ?_)|(refine MS.nil ?_;intro nq hnq hltq;have hlq:=hltq _ _ (Hp.get_eq _ _ _);clear hltq;try refine zU ?_)|(refine LS.nilQ ?_;try with_reducible intro nq hnq;try refine zU ?_))
    refine zI ?_ ?_<;>intro h5
    · (repeat first|refine zG ?_|(refine LS.nilO ?_;intro nq hnq hltq;try refine zU ?_)|(refine MS.new ?_;intro bq hbq hbqf;try refine zU ?_)|(refine MS.nil ?_;intro nq hnq hltq;have hlq:=hltq _ _ (Hp.get_eq _ _ _);clear hltq;try refine zU ?_)|(refine LS.nilQ ?_;try with_reducible intro nq hnq;try refine zU ?_))
      refine CS.quietLo ?_
      (repeat first|refine zG ?_|(refine LS.nilO ?_;intro nq hnq hltq;try refine zU ?_)|(refine MS.new ?_;intro bq hbq hbqf;try refine zU ?_)|(refine MS.nil ?_;intro nq hnq hltq;have hlq:=hltq _ _ (Hp.get_eq _ _ _);clear hltq;try refine zU ?_)|(refine LS.nilQ ?_;try with_reducible intro nq hnq;try refine zU ?_))
      refine LS.callQ (.arr 8 (bys (app h.p h.s (fun y => h.s (8 * i + y))))) rfl (fun n' hn' => Hopf_antipode h h.N (fun y => h.s (8 * i + y)) n ⟨1106, K, 35⟩ _ _ hS (by exact zH) rfl hK hB (fun y hy => hB.s _ (by omega))) ?_
      (repeat first|refine zG ?_|(refine LS.nilO ?_;intro nq hnq hltq;try refine zU ?_)|(refine MS.new ?_;intro bq hbq hbqf;try refine zU ?_)|(refine MS.nil ?_;intro nq hnq hltq;have hlq:=hltq _ _ (Hp.get_eq _ _ _);clear hltq;try refine zU ?_)|(refine LS.nilQ ?_;try with_reducible intro nq hnq;try refine zU ?_))
      refine LS.callQ (.arr 8 (bys (pr h.p h.m (app h.p h.s (fun y => h.s (8 * i + y))) u h.N))) rfl (fun n' hn' => Hopf_product h h.N (app h.p h.s (fun y => h.s (8 * i + y))) u n ⟨1106, K, 35⟩ _ _ hS (by exact zH) rfl hK hB ((app_res hp.1 _ _ 8).by hp.2) hub) ?_
      (repeat first|refine zG ?_|(refine LS.nilO ?_;intro nq hnq hltq;try refine zU ?_)|(refine MS.new ?_;intro bq hbq hbqf;try refine zU ?_)|(refine MS.nil ?_;intro nq hnq hltq;have hlq:=hltq _ _ (Hp.get_eq _ _ _);clear hltq;try refine zU ?_)|(refine LS.nilQ ?_;try with_reducible intro nq hnq;try refine zU ?_))
      refine LS.callQ (.arr 8 (bys (bas i))) rfl (fun n' hn' => impl_basis i _ _ (by omega)) ?_
      (repeat first|refine zG ?_|(refine LS.nilO ?_;intro nq hnq hltq;try refine zU ?_)|(refine MS.new ?_;intro bq hbq hbqf;try refine zU ?_)|(refine MS.nil ?_;intro nq hnq hltq;have hlq:=hltq _ _ (Hp.get_eq _ _ _);clear hltq;try refine zU ?_)|(refine LS.nilQ ?_;try with_reducible intro nq hnq;try refine zU ?_))
      refine LS.callQ (.arr 8 (bys (pr h.p h.m u (bas i) h.N))) rfl (fun n' hn' => Hopf_product h h.N u (bas i) n ⟨1106, K, 35⟩ _ _ hS (by exact zH) rfl hK hB hub (bas_by _ _)) ?_
      (repeat first|refine zG ?_|(refine LS.nilO ?_;intro nq hnq hltq;try refine zU ?_)|(refine MS.new ?_;intro bq hbq hbqf;try refine zU ?_)|(refine MS.nil ?_;intro nq hnq hltq;have hlq:=hltq _ _ (Hp.get_eq _ _ _);clear hltq;try refine zU ?_)|(refine LS.nilQ ?_;try with_reducible intro nq hnq;try refine zU ?_))
      refine zI ?_ ?_<;>intro h6
      · (repeat first|refine zG ?_|(refine LS.nilO ?_;intro nq hnq hltq;try refine zU ?_)|(refine MS.new ?_;intro bq hbq hbqf;try refine zU ?_)|(refine MS.nil ?_;intro nq hnq hltq;have hlq:=hltq _ _ (Hp.get_eq _ _ _);clear hltq;try refine zU ?_)|(refine LS.nilQ ?_;try with_reducible intro nq hnq;try refine zU ?_))
        exact ⟨.tup [bl (tb ((mok h 1 (fun _ => s) ∧ cnd h h.N s = 0) ∧ ∀ i, i < h.N → sqE h (drf h.p h.m h.s s h.N 64) h.N i)), i64 (sc5 (mok h 1 (fun _ => s)) (cnd h h.N s = 0))], H, conc_tup2 (by rw [tb_false (fun q => h6 (by have := q.2 i (by omega); rw [← hu] at this; exact this))]) (by rw [← hc, h1]), by exact zD, by rw [← hc, ← hu], rfl⟩
      · (repeat first|refine zG ?_|(refine LS.nilO ?_;intro nq hnq hltq;try refine zU ?_)|(refine MS.new ?_;intro bq hbq hbqf;try refine zU ?_)|(refine MS.nil ?_;intro nq hnq hltq;have hlq:=hltq _ _ (Hp.get_eq _ _ _);clear hltq;try refine zU ?_)|(refine LS.nilQ ?_;try with_reducible intro nq hnq;try refine zU ?_))
        exact ⟨by omega, by (repeat first | exact trivial | refine And.intro rfl ?_), Drops.refl _ _, ⟨fun j hj => if e : j = i then by subst e; exact h6 else hJ.out j (by omega)⟩⟩
    · obtain rfl : i = h.N := by omega
      (repeat first|refine zG ?_|(refine LS.nilO ?_;intro nq hnq hltq;try refine zU ?_)|(refine MS.new ?_;intro bq hbq hbqf;try refine zU ?_)|(refine MS.nil ?_;intro nq hnq hltq;have hlq:=hltq _ _ (Hp.get_eq _ _ _);clear hltq;try refine zU ?_)|(refine LS.nilQ ?_;try with_reducible intro nq hnq;try refine zU ?_))
      exact ⟨.tup [bl (tb ((mok h 1 (fun _ => s) ∧ cnd h h.N s = 0) ∧ ∀ i, i < h.N → sqE h (drf h.p h.m h.s s h.N 64) h.N i)), i64 (sc5 (mok h 1 (fun _ => s)) (cnd h h.N s = 0))], H, conc_tup2 (by rw [tb_true ⟨h4, by rw [← hu]; exact hJ.out⟩]) (by rw [← hc, h1]), by exact zD, by rw [← hc, ← hu], rfl⟩
/-- laws.FnExactSquareOfAntipode -/
def ir5 : Cd := (.seq (.reg [⟨some 2,none,.box 26 (.t 0)⟩,⟨some 3,none,.box 23 (.t 1)⟩,⟨some 4,none,.mov (.c (.bool false))⟩]) (.seq (.drwo true [] [0,2,1,3,4,5,6,7,8,9] [⟨some 10,none,.ld (some 1106) (.t 2)⟩,⟨some 11,none,.call 8 [(.t 10)]⟩,⟨some 12,none,.ld (some 64) (.t 3)⟩,⟨some 13,none,.call 9 [(.t 12)]⟩,⟨some 14,none,.call 15 [(.t 11),(.t 13)]⟩,⟨some 9,none,.mov (.t 14)⟩,⟨some 15,none,.ex (.t 9) 0⟩,⟨some 16,none,.ex (.t 9) 1⟩,⟨some 5,none,.mov (.t 15)⟩,⟨some 6,none,.mov (.t 16)⟩]) (.seq (.drwo true [] [0,2,1,3,4,5,6,7,8,9] [⟨some 18,none,.ld (some 1106) (.t 2)⟩,⟨some 19,none,.call 8 [(.t 18)]⟩,⟨some 20,none,.ld (some 64) (.t 3)⟩,⟨some 21,none,.call 9 [(.t 20)]⟩,⟨some 22,none,.call 16 [(.t 19),(.t 21)]⟩,⟨some 17,none,.mov (.t 22)⟩,⟨some 23,none,.ex (.t 17) 0⟩,⟨some 24,none,.ex (.t 17) 1⟩,⟨some 7,none,.mov (.t 23)⟩,⟨some 8,none,.mov (.t 24)⟩]) (.seq (.seq (.reg [⟨some 25,none,.mov (.t 7)⟩,⟨some 26,none,.mov (.t 5)⟩,⟨some 27,none,.beq true (.t 25) (.t 26)⟩,⟨some 28,none,.mov (.t 27)⟩,⟨some 29,(some (28,false)),.mov (.t 8)⟩,⟨some 30,(some (28,false)),.mov (.t 6)⟩,⟨some 31,(some (28,false)),.bin .neq (.t 29) (.t 30)⟩,⟨some 32,none,.pick (.t 28) (.c (.bool true)) (.t 31)⟩]) (.cond (.t 32) (.seq (.reg [⟨some 4,none,.mov (.c (.bool false))⟩]) .ret) .skip)) (.seq (.reg [⟨some 4,none,.mov (.c (.bool true))⟩]) .ret)))))
set_option maxRecDepth 100000 in
theorem tr5 : trFn Tryz.prog Tryz.f5 = some (33, ir5, [.tmp 4]) := by kernel_rfl
theorem law_FnExactSquareOfAntipode (z : Nat → Int) (w : ∀ i, (Lit.int (hopfKs.getD i .u8) (z i)).wf = true) (z1 : Nat → Int) (w1 : ∀ i, (Lit.int ((List.replicate 64 .u8 : List IntKind).getD i .u8) (z1 i)).wf = true) (n : Nat) :
    FnS Tryz.prog 5 [.arr 1106 fun i => .int (hopfKs.getD i .u8) (z i), .arr 64 fun i => .int ((List.replicate 64 .u8 : List IntKind).getD i .u8) (z1 i)] [] n (fun r H' _ => r = bl true ∧ H' = []) := by
  have hK := hOf_at z
  have hB := hOf_by w
  generalize hOf z = h at hK hB
  generalize (fun i => SV.int (hopfKs.getD i .u8) (z i)) = K at hK ⊢
  simp only [flat_bys]
  refine FnS.of_body Tryz.func5 tr5 (by simp) (fun hf => ?_)
  dsimp only [argEnv]
  unfold ir5
  (repeat first|refine zG ?_|(refine LS.nilO ?_;intro nq hnq hltq;try refine zU ?_)|(refine MS.new ?_;intro bq hbq hbqf;try refine zU ?_)|(refine MS.nil ?_;intro nq hnq hltq;have hlq:=hltq _ _ (Hp.get_eq _ _ _);clear hltq;try refine zU ?_)|(refine LS.nilQ ?_;try with_reducible intro nq hnq;try refine zU ?_))
  refine CS.quietLo ?_
  (repeat first|refine zG ?_|(refine LS.nilO ?_;intro nq hnq hltq;try refine zU ?_)|(refine MS.new ?_;intro bq hbq hbqf;try refine zU ?_)|(refine MS.nil ?_;intro nq hnq hltq;have hlq:=hltq _ _ (Hp.get_eq _ _ _);clear hltq;try refine zU ?_)|(refine LS.nilQ ?_;try with_reducible intro nq hnq;try refine zU ?_))
  refine LS.callQ (.arr 1106 K) rfl (fun n' hn' => laws_toHopf h K _ _ hK) ?_
  (repeat first|refine zG ?_|(refine LS.nilO ?_;intro nq hnq hltq;try refine zU ?_)|(refine MS.new ?_;intro bq hbq hbqf;try refine zU ?_)|(refine MS.nil ?_;intro nq hnq hltq;have hlq:=hltq _ _ (Hp.get_eq _ _ _);clear hltq;try refine zU ?_)|(refine LS.nilQ ?_;try with_reducible intro nq hnq;try refine zU ?_))
  refine LS.callQ (.arr 64 (bys z1)) rfl (fun n' hn' => laws_toLinear z1 _ _) ?_
  (repeat first|refine zG ?_|(refine LS.nilO ?_;intro nq hnq hltq;try refine zU ?_)|(refine MS.new ?_;intro bq hbq hbqf;try refine zU ?_)|(refine MS.nil ?_;intro nq hnq hltq;have hlq:=hltq _ _ (Hp.get_eq _ _ _);clear hltq;try refine zU ?_)|(refine LS.nilQ ?_;try with_reducible intro nq hnq;try refine zU ?_))
  refine LS.callQ (.tup [bl (tb ((mok h 1 (fun _ => z1) ∧ cnd h h.N z1 = 0) ∧ ∀ i, i < h.N → sqE h (drf h.p h.m h.s z1 h.N 64) h.N i)), i64 (sc5 (mok h 1 (fun _ => z1)) (cnd h h.N z1 = 0))]) rfl (fun n' hn' => spec_SquareOfAntipode h z1 K _ _ hK hB (flat_by w1)) ?_
  (repeat first|refine zG ?_|(refine LS.nilO ?_;intro nq hnq hltq;try refine zU ?_)|(refine MS.new ?_;intro bq hbq hbqf;try refine zU ?_)|(refine MS.nil ?_;intro nq hnq hltq;have hlq:=hltq _ _ (Hp.get_eq _ _ _);clear hltq;try refine zU ?_)|(refine LS.nilQ ?_;try with_reducible intro nq hnq;try refine zU ?_))
  refine CS.quietLo ?_
  (repeat first|refine zG ?_|(refine LS.nilO ?_;intro nq hnq hltq;try refine zU ?_)|(refine MS.new ?_;intro bq hbq hbqf;try refine zU ?_)|(refine MS.nil ?_;intro nq hnq hltq;have hlq:=hltq _ _ (Hp.get_eq _ _ _);clear hltq;try refine zU ?_)|(refine LS.nilQ ?_;try with_reducible intro nq hnq;try refine zU ?_))
  refine LS.callQ (.arr 1106 K) rfl (fun n' hn' => laws_toHopf h K _ _ hK) ?_
  (repeat first|refine zG ?_|(refine LS.nilO ?_;intro nq hnq hltq;try refine zU ?_)|(refine MS.new ?_;intro bq hbq hbqf;try refine zU ?_)|(refine MS.nil ?_;intro nq hnq hltq;have hlq:=hltq _ _ (Hp.get_eq _ _ _);clear hltq;try refine zU ?_)|(refine LS.nilQ ?_;try with_reducible intro nq hnq;try refine zU ?_))
  refine LS.callQ (.arr 64 (bys z1)) rfl (fun n' hn' => laws_toLinear z1 _ _) ?_
  (repeat first|refine zG ?_|(refine LS.nilO ?_;intro nq hnq hltq;try refine zU ?_)|(refine MS.new ?_;intro bq hbq hbqf;try refine zU ?_)|(refine MS.nil ?_;intro nq hnq hltq;have hlq:=hltq _ _ (Hp.get_eq _ _ _);clear hltq;try refine zU ?_)|(refine LS.nilQ ?_;try with_reducible intro nq hnq;try refine zU ?_))
  refine LS.callQ (.tup [bl (tb ((mok h 1 (fun _ => z1) ∧ cnd h h.N z1 = 0) ∧ ∀ i, i < h.N → sqE h (drf h.p h.m h.s z1 h.N 64) h.N i)), i64 (sc5 (mok h 1 (fun _ => z1)) (cnd h h.N z1 = 0))]) rfl (fun n' hn' => impl_SquareOfAntipode h z1 K _ _ hK hB (flat_by w1)) ?_
  (repeat first|refine zG ?_|(refine LS.nilO ?_;intro nq hnq hltq;try refine zU ?_)|(refine MS.new ?_;intro bq hbq hbqf;try refine zU ?_)|(refine MS.nil ?_;intro nq hnq hltq;have hlq:=hltq _ _ (Hp.get_eq _ _ _);clear hltq;try refine zU ?_)|(refine LS.nilQ ?_;try with_reducible intro nq hnq;try refine zU ?_))
  refine RS.beq (by exact rfl) (by exact rfl) ?_
  simp only [beq_self_eq_true, Bool.not_true, ↓reduceIte]
  (repeat first|refine zG ?_|(refine LS.nilO ?_;intro nq hnq hltq;try refine zU ?_)|(refine MS.new ?_;intro bq hbq hbqf;try refine zU ?_)|(refine MS.nil ?_;intro nq hnq hltq;have hlq:=hltq _ _ (Hp.get_eq _ _ _);clear hltq;try refine zU ?_)|(refine LS.nilQ ?_;try with_reducible intro nq hnq;try refine zU ?_))
  simp only [bne_self_eq_false]
  (repeat first|refine zG ?_|(refine LS.nilO ?_;intro nq hnq hltq;try refine zU ?_)|(refine MS.new ?_;intro bq hbq hbqf;try refine zU ?_)|(refine MS.nil ?_;intro nq hnq hltq;have hlq:=hltq _ _ (Hp.get_eq _ _ _);clear hltq;try refine zU ?_)|(refine LS.nilQ ?_;try with_reducible intro nq hnq;try refine zU ?_))
  exact ⟨_, [], rfl, by exact zD, rfl, rfl⟩
end Go.Proofs.YtbknndbfbebkdabGreatR
