/- The constants of a module algebra: the law. -/
import Derived.Test.YtmkegkpabifpfaaGreatJbh
import Derived.Test.YtmkegkpabifpfaaGreatJal
namespace Go.V
set_option linter.unusedSimpArgs false
set_option linter.unusedVariables false
theorem repU_getD (n q : Nat) : (List.replicate n IntKind.u8).getD q .u8 = .u8 := by
  rw [List.getD_eq_getElem?_getD, List.getElem?_replicate]; split <;> rfl
theorem u8_bds {x : Int} (h : (Lit.int .u8 x).wf = true) : 0 ≤ x ∧ x ≤ 255 := by
  simp only [Lit.wf, Bool.and_eq_true, decide_eq_true_eq] at h
  exact h
abbrev algKs : List IntKind := .i64 :: .i64 :: List.replicate 520 .u8
theorem algKs_u8 (q : Nat) : algKs.getD (2 + q) .u8 = .u8 := by
  rw [show 2 + q = q + 1 + 1 by omega]
  show (List.replicate 520 IntKind.u8).getD q .u8 = .u8
  exact repU_getD _ _
theorem algKs_by {z : Nat → Int} (w : ∀ i, (Lit.int (algKs.getD i .u8) (z i)).wf = true) (q : Nat) : 0 ≤ z (2 + q) ∧ z (2 + q) ≤ 255 := by
  have := w (2 + q); rw [algKs_u8] at this; exact u8_bds this
abbrev modKs : List IntKind := .i64 :: List.replicate 512 .u8
theorem modKs_u8 (q : Nat) : modKs.getD (1 + q) .u8 = .u8 := by
  rw [show 1 + q = q + 1 by omega]
  show (List.replicate 512 IntKind.u8).getD q .u8 = .u8
  exact repU_getD _ _
theorem modKs_by {z : Nat → Int} (w : ∀ i, (Lit.int (modKs.getD i .u8) (z i)).wf = true) (q : Nat) : 0 ≤ z (1 + q) ∧ z (1 + q) ≤ 255 := by
  have := w (1 + q); rw [modKs_u8] at this; exact u8_bds this
theorem VL.ext {H H' : Hp} {v : SV} {m : Nat} {I : Nat → Nat → Int} {b : Nat} (h : VL H v m I b) (he : Ext H H') : VL H' v m I b := by
  obtain ⟨o, cap, k, h1, h2, h3⟩ := h
  exact ⟨o, cap, k, h1, he _ _ h2, h3⟩
/-- The list of invariants that a call has made. -/
def csl (p : Int) (a m : Nat) (Z : Nat → Nat → Int) (f : (Nat → Nat → Int) → Nat → Nat → Int) (H : Hp) (n : Nat) (r : AV) (H' : Hp) : Prop :=
  ∃ sv' A' d' P' b' R dd P, r = .tup [.s sv', i64 0] ∧ VL H' sv' d' A' b' ∧ RR p A' d' P' ∧ same p A' d' (krn p R P dd a) (fre P dd a) ∧ RR p (f R) dd P ∧ same p (f R) dd Z m ∧ H.get b' = none ∧ n ≤ b' ∧ ∀ x, x < n → H'.get x = H.get x
theorem csl.mono {p : Int} {a m : Nat} {Z : Nat → Nat → Int} {f : (Nat → Nat → Int) → Nat → Nat → Int} {H : Hp} {n n' : Nat} {r : AV} {H' : Hp} (h : csl p a m Z f H n' r H') (hn : n ≤ n') : csl p a m Z f H n r H' := by
  obtain ⟨sv', A', d', P', b', R, dd, P, h1, h2, h3, h4, h5, h6, h7, h8, h9⟩ := h
  exact ⟨sv', A', d', P', b', R, dd, P, h1, h2, h3, h4, h5, h6, h7, by omega, fun x hx => h9 x (by omega)⟩
end Go.V
namespace Go.Proofs.YtmkegkpabifpfaaGreat
open Go.V
set_option linter.unusedSimpArgs false
set_option linter.unusedVariables false
set_option maxHeartbeats 8000000

/-- laws.FnExactConstantsOf -/
def ir3 : Cd := (.seq (.reg [⟨some 3,none,.box 26 (.t 0)⟩,⟨some 4,none,.box 28 (.t 1)⟩,⟨some 5,none,.box 30 (.t 2)⟩,⟨some 6,none,.mov (.c (.bool false))⟩]) (.seq (.drwo true [] [0,2,4,1,3,5,6,7,8,9,10,11] [⟨some 16,none,.ld (some 1106) (.t 3)⟩,⟨some 17,none,.call 5 [(.t 16)]⟩,⟨some 18,none,.ld (some 522) (.t 4)⟩,⟨some 19,none,.call 6 [(.t 18)]⟩,⟨some 20,none,.ld (some 513) (.t 5)⟩,⟨some 21,none,.call 7 [(.t 20)]⟩,⟨some 22,none,.call 4 [(.t 17),(.t 19),(.t 21)]⟩,⟨some 15,none,.mov (.t 22)⟩,⟨some 23,none,.ex (.t 15) 0⟩,⟨some 24,none,.ex (.t 15) 1⟩,⟨some 7,none,.mov (.t 23)⟩,⟨some 8,none,.mov (.t 24)⟩]) (.seq (.drwo true [] [0,2,4,1,3,5,6,7,8,9,10,11] [⟨some 26,none,.ld (some 1106) (.t 3)⟩,⟨some 27,none,.call 5 [(.t 26)]⟩,⟨some 28,none,.ld (some 522) (.t 4)⟩,⟨some 29,none,.call 6 [(.t 28)]⟩,⟨some 30,none,.ld (some 513) (.t 5)⟩,⟨some 31,none,.call 7 [(.t 30)]⟩,⟨some 32,none,.call 8 [(.t 27),(.t 29),(.t 31)]⟩,⟨some 25,none,.mov (.t 32)⟩,⟨some 33,none,.ex (.t 25) 0⟩,⟨some 34,none,.ex (.t 25) 1⟩,⟨some 9,none,.mov (.t 33)⟩,⟨some 10,none,.mov (.t 34)⟩]) (.seq (.seq (.reg [⟨some 35,none,.mov (.t 9)⟩,⟨some 36,none,.mov (.t 7)⟩,⟨some 37,none,.call 9 [(.t 35),(.t 36)]⟩,⟨some 38,none,.un .not (.t 37)⟩,⟨some 39,none,.mov (.t 38)⟩,⟨some 40,(some (39,false)),.mov (.t 10)⟩,⟨some 41,(some (39,false)),.mov (.t 8)⟩,⟨some 42,(some (39,false)),.bin .neq (.t 40) (.t 41)⟩,⟨some 43,none,.pick (.t 39) (.c (.bool true)) (.t 42)⟩]) (.cond (.t 43) (.seq (.reg [⟨some 6,none,.mov (.c (.bool false))⟩]) .ret) .skip)) (.seq (.reg [⟨some 11,none,.mov (.c (.int .i64 101))⟩]) (.seq (.reg [⟨some 44,none,.mov (.t 9)⟩,⟨some 45,none,.mov (.t 11)⟩,⟨some 46,none,.call 10 [(.t 44),(.t 45)]⟩,⟨some 11,none,.mov (.t 46)⟩]) (.seq (.reg [⟨some 12,none,.mov (.c (.int .i64 101))⟩]) (.seq (.reg [⟨some 47,none,.mov (.t 9)⟩,⟨some 48,none,.mov (.t 12)⟩,⟨some 49,none,.call 11 [(.t 47),(.t 48)]⟩,⟨some 12,none,.mov (.t 49)⟩]) (.seq (.seq (.reg [⟨some 50,none,.mov (.t 12)⟩,⟨some 51,none,.bin .lss (.t 50) (.c (.int .i64 0))⟩]) (.cond (.t 51) (.seq (.reg [⟨some 6,none,.mov (.c (.bool false))⟩]) .ret) .skip)) (.seq (.seq (.reg [⟨some 52,none,.mov (.t 12)⟩,⟨some 53,none,.mov (.t 11)⟩,⟨some 54,none,.bin .neq (.t 52) (.t 53)⟩]) (.cond (.t 54) (.seq (.reg [⟨some 6,none,.mov (.c (.bool false))⟩]) .ret) .skip)) (.seq (.drwo true [] [0,2,4,1,3,5,6,7,8,9,10,11] [⟨some 56,none,.ld (some 1106) (.t 3)⟩,⟨some 57,none,.call 5 [(.t 56)]⟩,⟨some 58,none,.ld (some 522) (.t 4)⟩,⟨some 59,none,.call 6 [(.t 58)]⟩,⟨some 60,none,.ld (some 513) (.t 5)⟩,⟨some 61,none,.call 7 [(.t 60)]⟩,⟨some 62,none,.call 8 [(.t 57),(.t 59),(.t 61)]⟩,⟨some 55,none,.mov (.t 62)⟩,⟨some 63,none,.ex (.t 55) 0⟩,⟨some 64,none,.ex (.t 55) 1⟩,⟨some 13,none,.mov (.t 63)⟩,⟨some 14,none,.mov (.t 64)⟩]) (.seq (.seq (.reg [⟨some 65,none,.mov (.t 13)⟩,⟨some 66,none,.mov (.t 7)⟩,⟨some 67,none,.call 9 [(.t 65),(.t 66)]⟩,⟨some 68,none,.un .not (.t 67)⟩,⟨some 69,none,.mov (.t 68)⟩,⟨some 70,(some (69,false)),.mov (.t 14)⟩,⟨some 71,(some (69,false)),.mov (.t 8)⟩,⟨some 72,(some (69,false)),.bin .neq (.t 70) (.t 71)⟩,⟨some 73,none,.pick (.t 69) (.c (.bool true)) (.t 72)⟩]) (.cond (.t 73) (.seq (.reg [⟨some 6,none,.mov (.c (.bool false))⟩]) .ret) .skip)) (.seq (.reg [⟨some 12,none,.mov (.c (.int .i64 101))⟩]) (.seq (.reg [⟨some 74,none,.mov (.t 9)⟩,⟨some 75,none,.mov (.t 12)⟩,⟨some 76,none,.call 11 [(.t 74),(.t 75)]⟩,⟨some 12,none,.mov (.t 76)⟩]) (.seq (.seq (.reg [⟨some 77,none,.mov (.t 12)⟩,⟨some 78,none,.bin .lss (.t 77) (.c (.int .i64 0))⟩]) (.cond (.t 78) (.seq (.reg [⟨some 6,none,.mov (.c (.bool false))⟩]) .ret) .skip)) (.seq (.seq (.reg [⟨some 79,none,.mov (.t 12)⟩,⟨some 80,none,.mov (.t 11)⟩,⟨some 81,none,.bin .neq (.t 79) (.t 80)⟩]) (.cond (.t 81) (.seq (.reg [⟨some 6,none,.mov (.c (.bool false))⟩]) .ret) .skip)) (.seq (.reg [⟨some 6,none,.mov (.c (.bool true))⟩]) .ret)))))))))))))))))
set_option maxRecDepth 100000 in
theorem tr3 : trFn Tryz.prog Tryz.f3 = some (82, ir3, [.tmp 6]) := by kernel_rfl

theorem law_FnExactConstantsOf (z : Nat → Int) (w : ∀ i, (Lit.int (hopfKs.getD i .u8) (z i)).wf = true) (z1 : Nat → Int) (w1 : ∀ i, (Lit.int (algKs.getD i .u8) (z1 i)).wf = true) (z2 : Nat → Int) (w2 : ∀ i, (Lit.int (modKs.getD i .u8) (z2 i)).wf = true) (n : Nat) :
    FnS Tryz.prog 3 [.arr 1106 fun i => .int (hopfKs.getD i .u8) (z i), .arr 522 fun i => .int (algKs.getD i .u8) (z1 i), .arr 513 fun i => .int (modKs.getD i .u8) (z2 i)] [] n (fun r H' _ => r = bl true ∧ H' = []) := by
  have hK := hOf_at z
  have hB := hOf_by w
  generalize hOf z = h at hK hB
  generalize (fun i => SV.int (hopfKs.getD i .u8) (z i)) = Kh at hK ⊢
  have hA : AAt (z1 0) (z1 1) (fun q => z1 (2 + q)) (fun q => z1 (10 + q)) (fun i => SV.int (algKs.getD i .u8) (z1 i)) := ⟨rfl, rfl, fun q _ => by
    show SV.int (algKs.getD (2 + q) .u8) _ = _; rw [algKs_u8], fun q _ => by
    show SV.int (algKs.getD (10 + q) .u8) _ = _; rw [show 10 + q = 2 + (8 + q) by omega, algKs_u8, show 2 + (8 + q) = 10 + q by omega]⟩
  have hu : isBy 8 (fun q => z1 (2 + q)) := fun q _ => algKs_by w1 q
  have hm : isBy 512 (fun q => z1 (10 + q)) := fun q _ => by
    have := algKs_by w1 (8 + q); rwa [show 2 + (8 + q) = 10 + q by omega] at this
  generalize (fun q => z1 (2 + q)) = au at hA hu
  generalize (fun q => z1 (10 + q)) = am at hA hm
  generalize z1 0 = ap at hA
  generalize z1 1 = an at hA
  generalize (fun i => SV.int (algKs.getD i .u8) (z1 i)) = Ka at hA ⊢
  have kd : (fun i => SV.int (modKs.getD i .u8) (z2 i)) 0 = .int .i64 (z2 0) := rfl
  have cm : ∀ q, q < 512 → (fun i => SV.int (modKs.getD i .u8) (z2 i)) (1 + q) = .int .u8 ((fun q => z2 (1 + q)) q) := fun q _ => by
    show SV.int (modKs.getD (1 + q) .u8) _ = _; rw [modKs_u8]
  have ht : isBy 512 (fun q => z2 (1 + q)) := fun q _ => modKs_by w2 q
  generalize (fun q => z2 (1 + q)) = t at cm ht
  generalize z2 0 = d at kd
  generalize (fun i => SV.int (modKs.getD i .u8) (z2 i)) = Km at kd cm ⊢
  have cs := fun (H : Hp) (n : Nat) => spec_ConstantsOf h ap an d au am t Kh Ka Km H n hK hB hA hu hm kd cm ht
  have ci := fun (H : Hp) (n : Nat) => impl_ConstantsOf h ap an d au am t Kh Ka Km H n hK hB hA hu hm kd cm ht
  refine FnS.of_body Tryz.func3 tr3 (by simp) (fun hf => ?_)
  dsimp only [argEnv]
  unfold ir3
  by_cases hg : q8 h ap an d au am t ∧ r8 h ap an d ∧ isMA h h.N d.toNat au am t
  · have hs1 : ∀ (H : Hp) (n : Nat), (∀ b k, H.get b = some k → b < n) → FnS Tryz.prog 4 [.arr 1106 Kh, .arr 522 Ka, .arr 513 Km] H n (fun r H' _ => csl h.p d.toNat (h.N * d.toNat) (zc d.toNat (krw h.p d.toNat (ivf d.toNat t h.e))) id H n r H' ∧ Ext H H') := fun H n hl => (cs H n).mono (by
      rintro r H' n' hn' (⟨q, -⟩ | ⟨-, sv', A', d', P', b', R, dd, P, rfl, h1, h2, h3, h4, h5, h6, h7, h8, h9⟩)
      · exact absurd hg q
      · exact ⟨⟨sv', A', d', P', b', R, dd, P, rfl, h1, h2, h3, h4, h5, by
          cases e : H.get b' with
          | none => rfl
          | some k => exact absurd (hl _ _ e) (by omega), h6, h9⟩, fun b k hb => by rw [h9 b (hl b k hb)]; exact hb⟩)
    have hi1 : ∀ (H : Hp) (n : Nat), (∀ b k, H.get b = some k → b < n) → FnS Tryz.prog 8 [.arr 1106 Kh, .arr 522 Ka, .arr 513 Km] H n (fun r H' _ => csl h.p d.toNat (h.N * d.toNat) (zc d.toNat (krw h.p d.toNat (ivf d.toNat t h.e))) (zc d.toNat) H n r H' ∧ Ext H H') := fun H n hl => (ci H n).mono (by
      rintro r H' n' hn' (⟨q, -⟩ | ⟨-, sv', A', d', P', b', R, dd, P, rfl, h1, h2, h3, h4, h5, h6, h7, h8, h9⟩)
      · exact absurd hg q
      · exact ⟨⟨sv', A', d', P', b', R, dd, P, rfl, h1, h2, h3, h4, h5, by
          cases e : H.get b' with
          | none => rfl
          | some k => exact absurd (hl _ _ e) (by omega), h6, h9⟩, fun b k hb => by rw [h9 b (hl b k hb)]; exact hb⟩)
    clear cs ci
    obtain ⟨N, hS⟩ := hg.1.1.1.hs
    have hp2 : 2 ≤ h.p := hS.hp.1
    have hd8 := hg.1.2.2.1.1
    have ha8 : d.toNat ≤ 8 := by omega
    (refine zG ?_)
    refine CS.ordL ?_; dsimp only [pick, List.filterMap_cons, List.getElem?_cons_zero, List.getElem?_cons_succ, List.filterMap_nil]
    (refine zG ?_)
    refine LS.callOq (.arr 1106 Kh) rfl (fun n' _ _ => laws_toHopf h Kh _ _ hK) ?_
    (repeat first|refine zG ?_|(refine LS.nilO ?_;intro nq hnq hltq;try refine zU ?_)|(refine MS.new ?_;intro bq hbq hbqf;try refine zU ?_)|(refine MS.nil ?_;intro nq hnq hltq;have hlq:=hltq _ _ (Hp.get_eq _ _ _);clear hltq;try refine zU ?_)|(refine LS.nilQ ?_;try with_reducible intro nq hnq;try refine zU ?_))
    refine LS.callOq (.arr 522 Ka) rfl (fun n' _ _ => laws_toAlgebra ap an au am Ka _ _ hA.p hA.n hA.u hA.m) ?_
    (repeat first|refine zG ?_|(refine LS.nilO ?_;intro nq hnq hltq;try refine zU ?_)|(refine MS.new ?_;intro bq hbq hbqf;try refine zU ?_)|(refine MS.nil ?_;intro nq hnq hltq;have hlq:=hltq _ _ (Hp.get_eq _ _ _);clear hltq;try refine zU ?_)|(refine LS.nilQ ?_;try with_reducible intro nq hnq;try refine zU ?_))
    refine LS.callOq (.arr 513 Km) rfl (fun n' _ _ => laws_toModule d t Km _ _ kd cm) ?_
    (repeat first|refine zG ?_|(refine LS.nilO ?_;intro nq hnq hltq;try refine zU ?_)|(refine MS.new ?_;intro bq hbq hbqf;try refine zU ?_)|(refine MS.nil ?_;intro nq hnq hltq;have hlq:=hltq _ _ (Hp.get_eq _ _ _);clear hltq;try refine zU ?_)|(refine LS.nilQ ?_;try with_reducible intro nq hnq;try refine zU ?_))
    refine LS.callO (R := csl h.p d.toNat (h.N * d.toNat) (zc d.toNat (krw h.p d.toNat (ivf d.toNat t h.e))) id [(n + 1 + 1, ⟨513, Km, 30⟩), (n + 1, ⟨522, Ka, 28⟩), (n, ⟨1106, Kh, 26⟩)] (n + 3)) rfl (fun n' hn' hl' => (hs1 _ n' hl').mono (fun r H' _ _ q => ⟨q.1.mono (by omega), q.2⟩)) ?_
    rintro r H1 ⟨v1, A1, d1, P1, b1, R1, e1, Q1, rfl, V1, rr1, s1, r1, t1, nn1, lb1, lo1⟩ hx1
    have g1 := hx1 n ⟨1106, Kh, 26⟩ (by exact zH)
    have g2 := hx1 (n + 1) ⟨522, Ka, 28⟩ (by exact zH)
    have g3 := hx1 (n + 1 + 1) ⟨513, Km, 30⟩ (by exact zH)
    have lo1' : ∀ x, x < n → H1.get x = none := fun x hx => by rw [lo1 x (by omega), Hp.get_ne _ _ (by omega), Hp.get_ne _ _ (by omega), Hp.get_ne _ _ (by omega)]; rfl
    clear lo1 hx1
    (repeat first|refine zG ?_|(refine LS.nilO ?_;intro nq hnq hltq;try refine zU ?_)|(refine MS.new ?_;intro bq hbq hbqf;try refine zU ?_)|(refine MS.nil ?_;intro nq hnq hltq;have hlq:=hltq _ _ (Hp.get_eq _ _ _);clear hltq;try refine zU ?_)|(refine LS.nilQ ?_;try with_reducible intro nq hnq;try refine zU ?_))
    refine CS.ordL ?_; dsimp only [pick, List.filterMap_cons, List.getElem?_cons_zero, List.getElem?_cons_succ, List.filterMap_nil]
    (refine zG ?_)
    refine LS.callOq (.arr 1106 Kh) rfl (fun n' _ _ => laws_toHopf h Kh _ _ hK) ?_
    (repeat first|refine zG ?_|(refine LS.nilO ?_;intro nq hnq hltq;try refine zU ?_)|(refine MS.new ?_;intro bq hbq hbqf;try refine zU ?_)|(refine MS.nil ?_;intro nq hnq hltq;have hlq:=hltq _ _ (Hp.get_eq _ _ _);clear hltq;try refine zU ?_)|(refine LS.nilQ ?_;try with_reducible intro nq hnq;try refine zU ?_))
    refine LS.callOq (.arr 522 Ka) rfl (fun n' _ _ => laws_toAlgebra ap an au am Ka _ _ hA.p hA.n hA.u hA.m) ?_
    (repeat first|refine zG ?_|(refine LS.nilO ?_;intro nq hnq hltq;try refine zU ?_)|(refine MS.new ?_;intro bq hbq hbqf;try refine zU ?_)|(refine MS.nil ?_;intro nq hnq hltq;have hlq:=hltq _ _ (Hp.get_eq _ _ _);clear hltq;try refine zU ?_)|(refine LS.nilQ ?_;try with_reducible intro nq hnq;try refine zU ?_))
    refine LS.callOq (.arr 513 Km) rfl (fun n' _ _ => laws_toModule d t Km _ _ kd cm) ?_
    (repeat first|refine zG ?_|(refine LS.nilO ?_;intro nq hnq hltq;try refine zU ?_)|(refine MS.new ?_;intro bq hbq hbqf;try refine zU ?_)|(refine MS.nil ?_;intro nq hnq hltq;have hlq:=hltq _ _ (Hp.get_eq _ _ _);clear hltq;try refine zU ?_)|(refine LS.nilQ ?_;try with_reducible intro nq hnq;try refine zU ?_))
    refine LS.callO (R := csl h.p d.toNat (h.N * d.toNat) (zc d.toNat (krw h.p d.toNat (ivf d.toNat t h.e))) (zc d.toNat) H1 (n + 3)) rfl (fun n' hn' hl' => (hi1 _ n' hl').mono (fun r H' _ _ q => ⟨q.1.mono (by omega), q.2⟩)) ?_
    rintro r H2 ⟨v2, A2, d2, P2, b2, R2, e2, Q2, rfl, V2, rr2, s2, r2, t2, nn2, lb2, lo2⟩ hx2
    have f2 := hx2 _ _ g1
    have f3 := hx2 _ _ g2
    have f4 := hx2 _ _ g3
    have V1' := V1.ext hx2
    have hb12 : b1 ≠ b2 := by
      rintro rfl
      obtain ⟨o, cap, k, -, q, -⟩ := V1
      rw [nn2] at q; cases q
    have hd2 : d2 ≤ 8 := rr2.d8
    obtain ⟨e12, f12⟩ := inv_lists hp2 ha8 rr2 s2 r2 t2 rr1 s1 r1 t1
    subst e12
    have lo2' : ∀ x, x < n → H2.get x = none := fun x hx => by rw [lo2 x (by omega), lo1' x hx]
    clear V1 hx2 lo2 lo1' g1 g2 g3 nn1
    (repeat first|refine zG ?_|(refine LS.nilO ?_;intro nq hnq hltq;try refine zU ?_)|(refine MS.new ?_;intro bq hbq hbqf;try refine zU ?_)|(refine MS.nil ?_;intro nq hnq hltq;have hlq:=hltq _ _ (Hp.get_eq _ _ _);clear hltq;try refine zU ?_)|(refine LS.nilQ ?_;try with_reducible intro nq hnq;try refine zU ?_))
    refine RS.call rfl ((laws_eqVectorS d2 b2 b1 A2 A1 v2 v1 _ _ (by omega) V2 V1' f12).mono ?_)
    rintro r H2 n5 hn5 ⟨rfl, rfl⟩
    (refine zG ?_)
    refine RS.call rfl ((laws_markVectorS d2 b2 A2 v2 _ _ hd2 V2).mono ?_)
    rintro r H3 n6 hn6 ⟨rfl, V3, l3⟩
    have hw1 : 101 + 8 * d2 < 1000 := by omega
    (refine zG ?_)
    refine RS.call rfl ((laws_heldVectorS d2 b2 v2 _ _ hd2 V3).mono ?_)
    rintro r H3 n7 hn7 ⟨rfl, rfl⟩
    (refine zG ?_)
    simp only [bne_self_eq_false]
    have k1 : H3.get n = some ⟨1106, Kh, 26⟩ := by rw [l3 n (by omega)]; exact f2
    have k2 : H3.get (n + 1) = some ⟨522, Ka, 28⟩ := by rw [l3 (n + 1) (by omega)]; exact f3
    have k3 : H3.get (n + 1 + 1) = some ⟨513, Km, 30⟩ := by rw [l3 (n + 1 + 1) (by omega)]; exact f4
    have W1 : VL H3 v1 d2 A1 b1 := V1'.keep (l3 b1 hb12)
    have lo3' : ∀ x, x < n → H3.get x = none := fun x hx => by rw [l3 x (by omega), lo2' x hx]
    clear V1' V2 f2 f3 f4 l3 lo2' rr2 s2 r2 t2 hltq
    (refine zG ?_)
    refine CS.ordL ?_; dsimp only [pick, List.filterMap_cons, List.getElem?_cons_zero, List.getElem?_cons_succ, List.filterMap_nil]
    (refine zG ?_)
    refine LS.callOq (.arr 1106 Kh) rfl (fun n' _ _ => laws_toHopf h Kh _ _ hK) ?_
    (repeat first|refine zG ?_|(refine LS.nilO ?_;intro nq hnq hltq;try refine zU ?_)|(refine MS.new ?_;intro bq hbq hbqf;try refine zU ?_)|(refine MS.nil ?_;intro nq hnq hltq;have hlq:=hltq _ _ (Hp.get_eq _ _ _);clear hltq;try refine zU ?_)|(refine LS.nilQ ?_;try with_reducible intro nq hnq;try refine zU ?_))
    refine LS.callOq (.arr 522 Ka) rfl (fun n' _ _ => laws_toAlgebra ap an au am Ka _ _ hA.p hA.n hA.u hA.m) ?_
    (repeat first|refine zG ?_|(refine LS.nilO ?_;intro nq hnq hltq;try refine zU ?_)|(refine MS.new ?_;intro bq hbq hbqf;try refine zU ?_)|(refine MS.nil ?_;intro nq hnq hltq;have hlq:=hltq _ _ (Hp.get_eq _ _ _);clear hltq;try refine zU ?_)|(refine LS.nilQ ?_;try with_reducible intro nq hnq;try refine zU ?_))
    refine LS.callOq (.arr 513 Km) rfl (fun n' _ _ => laws_toModule d t Km _ _ kd cm) ?_
    (repeat first|refine zG ?_|(refine LS.nilO ?_;intro nq hnq hltq;try refine zU ?_)|(refine MS.new ?_;intro bq hbq hbqf;try refine zU ?_)|(refine MS.nil ?_;intro nq hnq hltq;have hlq:=hltq _ _ (Hp.get_eq _ _ _);clear hltq;try refine zU ?_)|(refine LS.nilQ ?_;try with_reducible intro nq hnq;try refine zU ?_))
    refine LS.callO (R := csl h.p d.toNat (h.N * d.toNat) (zc d.toNat (krw h.p d.toNat (ivf d.toNat t h.e))) (zc d.toNat) H3 (n + 3)) rfl (fun n' hn' hl' => (hi1 _ n' hl').mono (fun r H' _ _ q => ⟨q.1.mono (by omega), q.2⟩)) ?_
    rintro r H4 ⟨v3, A3, d3, P3, b3, R3, e3, Q3, rfl, V4, rr3, s3, r3, t3, nn3, lb3, lo3⟩ hx3
    have X1 := W1.ext hx3
    have X2 := V3.ext hx3
    obtain ⟨e13, f13⟩ := inv_lists hp2 ha8 rr3 s3 r3 t3 rr1 s1 r1 t1
    subst e13
    have lo4' : ∀ x, x < n → H4.get x = none := fun x hx => by rw [lo3 x (by omega), lo3' x hx]
    clear V3 W1 hx3 lo3 lo3' k1 k2 k3 nn3
    (repeat first|refine zG ?_|(refine LS.nilO ?_;intro nq hnq hltq;try refine zU ?_)|(refine MS.new ?_;intro bq hbq hbqf;try refine zU ?_)|(refine MS.nil ?_;intro nq hnq hltq;have hlq:=hltq _ _ (Hp.get_eq _ _ _);clear hltq;try refine zU ?_)|(refine LS.nilQ ?_;try with_reducible intro nq hnq;try refine zU ?_))
    refine RS.call rfl ((laws_eqVectorS d3 b3 b1 A3 A1 v3 v1 _ _ (by omega) V4 X1 f13).mono ?_)
    rintro r H4 n8 hn8 ⟨rfl, rfl⟩
    (refine zG ?_)
    refine RS.call rfl ((laws_heldVectorS d3 b2 v2 _ _ hd2 X2).mono ?_)
    rintro r H4 n9 hn9 ⟨rfl, rfl⟩
    (refine zG ?_)
    simp only [bne_self_eq_false]
    (refine zG ?_)
    refine ⟨_, [], rfl, fun b => .inl ⟨rfl, ?_⟩, rfl, rfl⟩
    by_cases e : n ≤ b
    · exact .inr e
    · exact .inl (lo4' b (by omega))
  · obtain ⟨C, hC⟩ : ∃ C, C = k9 (q8 h ap an d au am t) (r8 h ap an d) (isMA h h.N d.toNat au am t) := ⟨_, rfl⟩
    have hs1 : ∀ (H : Hp) (n : Nat), FnS Tryz.prog 4 [.arr 1106 Kh, .arr 522 Ka, .arr 513 Km] H n (fun r H' _ => r = .tup [.s .nils, i64 C] ∧ H' = H) := fun H n => (cs H n).mono (by
      rintro r H' n' hn' (⟨-, q1, q2⟩ | ⟨q, -⟩)
      · exact ⟨by rw [hC]; exact q1, q2⟩
      · exact absurd q hg)
    have hi1 : ∀ (H : Hp) (n : Nat), FnS Tryz.prog 8 [.arr 1106 Kh, .arr 522 Ka, .arr 513 Km] H n (fun r H' _ => r = .tup [.s .nils, i64 C] ∧ H' = H) := fun H n => (ci H n).mono (by
      rintro r H' n' hn' (⟨-, q1, q2⟩ | ⟨q, -⟩)
      · exact ⟨by rw [hC]; exact q1, q2⟩
      · exact absurd q hg)
    clear cs ci hC
    (refine zG ?_)
    refine CS.ordL ?_; dsimp only [pick, List.filterMap_cons, List.getElem?_cons_zero, List.getElem?_cons_succ, List.filterMap_nil]
    (refine zG ?_)
    refine LS.callOq (.arr 1106 Kh) rfl (fun n' _ _ => laws_toHopf h Kh _ _ hK) ?_
    (repeat first|refine zG ?_|(refine LS.nilO ?_;intro nq hnq hltq;try refine zU ?_)|(refine MS.new ?_;intro bq hbq hbqf;try refine zU ?_)|(refine MS.nil ?_;intro nq hnq hltq;have hlq:=hltq _ _ (Hp.get_eq _ _ _);clear hltq;try refine zU ?_)|(refine LS.nilQ ?_;try with_reducible intro nq hnq;try refine zU ?_))
    refine LS.callOq (.arr 522 Ka) rfl (fun n' _ _ => laws_toAlgebra ap an au am Ka _ _ hA.p hA.n hA.u hA.m) ?_
    (repeat first|refine zG ?_|(refine LS.nilO ?_;intro nq hnq hltq;try refine zU ?_)|(refine MS.new ?_;intro bq hbq hbqf;try refine zU ?_)|(refine MS.nil ?_;intro nq hnq hltq;have hlq:=hltq _ _ (Hp.get_eq _ _ _);clear hltq;try refine zU ?_)|(refine LS.nilQ ?_;try with_reducible intro nq hnq;try refine zU ?_))
    refine LS.callOq (.arr 513 Km) rfl (fun n' _ _ => laws_toModule d t Km _ _ kd cm) ?_
    (repeat first|refine zG ?_|(refine LS.nilO ?_;intro nq hnq hltq;try refine zU ?_)|(refine MS.new ?_;intro bq hbq hbqf;try refine zU ?_)|(refine MS.nil ?_;intro nq hnq hltq;have hlq:=hltq _ _ (Hp.get_eq _ _ _);clear hltq;try refine zU ?_)|(refine LS.nilQ ?_;try with_reducible intro nq hnq;try refine zU ?_))
    refine LS.callOq (.tup [.s .nils, i64 C]) rfl (fun n' _ _ => hs1 _ n') ?_
    (repeat first|refine zG ?_|(refine LS.nilO ?_;intro nq hnq hltq;try refine zU ?_)|(refine MS.new ?_;intro bq hbq hbqf;try refine zU ?_)|(refine MS.nil ?_;intro nq hnq hltq;have hlq:=hltq _ _ (Hp.get_eq _ _ _);clear hltq;try refine zU ?_)|(refine LS.nilQ ?_;try with_reducible intro nq hnq;try refine zU ?_))
    refine CS.ordL ?_; dsimp only [pick, List.filterMap_cons, List.getElem?_cons_zero, List.getElem?_cons_succ, List.filterMap_nil]
    (refine zG ?_)
    refine LS.callOq (.arr 1106 Kh) rfl (fun n' _ _ => laws_toHopf h Kh _ _ hK) ?_
    (repeat first|refine zG ?_|(refine LS.nilO ?_;intro nq hnq hltq;try refine zU ?_)|(refine MS.new ?_;intro bq hbq hbqf;try refine zU ?_)|(refine MS.nil ?_;intro nq hnq hltq;have hlq:=hltq _ _ (Hp.get_eq _ _ _);clear hltq;try refine zU ?_)|(refine LS.nilQ ?_;try with_reducible intro nq hnq;try refine zU ?_))
    refine LS.callOq (.arr 522 Ka) rfl (fun n' _ _ => laws_toAlgebra ap an au am Ka _ _ hA.p hA.n hA.u hA.m) ?_
    (repeat first|refine zG ?_|(refine LS.nilO ?_;intro nq hnq hltq;try refine zU ?_)|(refine MS.new ?_;intro bq hbq hbqf;try refine zU ?_)|(refine MS.nil ?_;intro nq hnq hltq;have hlq:=hltq _ _ (Hp.get_eq _ _ _);clear hltq;try refine zU ?_)|(refine LS.nilQ ?_;try with_reducible intro nq hnq;try refine zU ?_))
    refine LS.callOq (.arr 513 Km) rfl (fun n' _ _ => laws_toModule d t Km _ _ kd cm) ?_
    (repeat first|refine zG ?_|(refine LS.nilO ?_;intro nq hnq hltq;try refine zU ?_)|(refine MS.new ?_;intro bq hbq hbqf;try refine zU ?_)|(refine MS.nil ?_;intro nq hnq hltq;have hlq:=hltq _ _ (Hp.get_eq _ _ _);clear hltq;try refine zU ?_)|(refine LS.nilQ ?_;try with_reducible intro nq hnq;try refine zU ?_))
    refine LS.callOq (.tup [.s .nils, i64 C]) rfl (fun n' _ _ => hi1 _ n') ?_
    (repeat first|refine zG ?_|(refine LS.nilO ?_;intro nq hnq hltq;try refine zU ?_)|(refine MS.new ?_;intro bq hbq hbqf;try refine zU ?_)|(refine MS.nil ?_;intro nq hnq hltq;have hlq:=hltq _ _ (Hp.get_eq _ _ _);clear hltq;try refine zU ?_)|(refine LS.nilQ ?_;try with_reducible intro nq hnq;try refine zU ?_))
    refine RS.call rfl ((laws_eqVectorS0 _ _).mono ?_)
    rintro r H' n5 hn5 ⟨rfl, rfl⟩
    (refine zG ?_)
    simp only [bne_self_eq_false]
    (refine zG ?_)
    refine RS.call rfl ((laws_markVectorS0 _ _).mono ?_)
    rintro r H' n6 hn6 ⟨rfl, rfl⟩
    (refine zG ?_)
    refine RS.call rfl ((laws_heldVectorS0 _ _).mono ?_)
    rintro r H' n7 hn7 ⟨rfl, rfl⟩
    (refine zG ?_)
    refine CS.ordL ?_; dsimp only [pick, List.filterMap_cons, List.getElem?_cons_zero, List.getElem?_cons_succ, List.filterMap_nil]
    (refine zG ?_)
    refine LS.callOq (.arr 1106 Kh) rfl (fun n' _ _ => laws_toHopf h Kh _ _ hK) ?_
    (repeat first|refine zG ?_|(refine LS.nilO ?_;intro nq hnq hltq;try refine zU ?_)|(refine MS.new ?_;intro bq hbq hbqf;try refine zU ?_)|(refine MS.nil ?_;intro nq hnq hltq;have hlq:=hltq _ _ (Hp.get_eq _ _ _);clear hltq;try refine zU ?_)|(refine LS.nilQ ?_;try with_reducible intro nq hnq;try refine zU ?_))
    refine LS.callOq (.arr 522 Ka) rfl (fun n' _ _ => laws_toAlgebra ap an au am Ka _ _ hA.p hA.n hA.u hA.m) ?_
    (repeat first|refine zG ?_|(refine LS.nilO ?_;intro nq hnq hltq;try refine zU ?_)|(refine MS.new ?_;intro bq hbq hbqf;try refine zU ?_)|(refine MS.nil ?_;intro nq hnq hltq;have hlq:=hltq _ _ (Hp.get_eq _ _ _);clear hltq;try refine zU ?_)|(refine LS.nilQ ?_;try with_reducible intro nq hnq;try refine zU ?_))
    refine LS.callOq (.arr 513 Km) rfl (fun n' _ _ => laws_toModule d t Km _ _ kd cm) ?_
    (repeat first|refine zG ?_|(refine LS.nilO ?_;intro nq hnq hltq;try refine zU ?_)|(refine MS.new ?_;intro bq hbq hbqf;try refine zU ?_)|(refine MS.nil ?_;intro nq hnq hltq;have hlq:=hltq _ _ (Hp.get_eq _ _ _);clear hltq;try refine zU ?_)|(refine LS.nilQ ?_;try with_reducible intro nq hnq;try refine zU ?_))
    refine LS.callOq (.tup [.s .nils, i64 C]) rfl (fun n' _ _ => hi1 _ n') ?_
    (repeat first|refine zG ?_|(refine LS.nilO ?_;intro nq hnq hltq;try refine zU ?_)|(refine MS.new ?_;intro bq hbq hbqf;try refine zU ?_)|(refine MS.nil ?_;intro nq hnq hltq;have hlq:=hltq _ _ (Hp.get_eq _ _ _);clear hltq;try refine zU ?_)|(refine LS.nilQ ?_;try with_reducible intro nq hnq;try refine zU ?_))
    refine RS.call rfl ((laws_eqVectorS0 _ _).mono ?_)
    rintro r H' n8 hn8 ⟨rfl, rfl⟩
    (refine zG ?_)
    simp only [bne_self_eq_false]
    (refine zG ?_)
    refine RS.call rfl ((laws_heldVectorS0 _ _).mono ?_)
    rintro r H' n9 hn9 ⟨rfl, rfl⟩
    (refine zG ?_)
    exact ⟨_, [], rfl, by exact zD, rfl, rfl⟩

end Go.Proofs.YtmkegkpabifpfaaGreat
