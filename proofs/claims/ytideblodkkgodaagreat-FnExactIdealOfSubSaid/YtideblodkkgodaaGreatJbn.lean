/- Reduced lists, the spec's: one more vector, all vectors. -/
import Derived.Test.YtideblodkkgodaaGreatJbm
set_option linter.unusedSectionVars false
set_option linter.unusedVariables false
set_option linter.unusedSimpArgs false

namespace Go.V

set_option linter.unusedSimpArgs false

set_option linter.unusedVariables false

theorem snc_at (A : Nat → Nat → Int) (i k x : Nat) : snc A i (A i) k x = A k x := by
  unfold snc
  by_cases e : k = i
  · rw [if_pos e, e]
  · rw [if_neg e]

end Go.V

namespace Go.Proofs.YtideblodkkgodaaGreat

open Go.V

variable [BW]

set_option linter.unusedSimpArgs false

set_option linter.unusedVariables false

set_option maxHeartbeats 4000000

/-- spec.l01Put -/
def ir18 : Cd := (.seq (.reg [⟨some 5,none,.box 32 (.t 2)⟩,⟨some 6,none,.mov (.c .nils)⟩]) (.seq (.reg [⟨some 11,none,.mov (.t 0)⟩,⟨some 12,none,.ld (some 8) (.t 5)⟩,⟨some 13,none,.mov (.t 1)⟩,⟨some 14,none,.call 40 [(.t 11),(.t 12),(.t 13)]⟩,⟨none,none,.st 8 (.t 5) (.t 14)⟩]) (.seq (.seq (.reg [⟨some 15,none,.ld (some 8) (.t 5)⟩,⟨some 16,none,.call 43 [(.t 15)]⟩]) (.cond (.t 16) (.seq (.reg [⟨some 17,none,.mov (.t 1)⟩,⟨some 6,none,.mov (.t 17)⟩]) .ret) .skip)) (.seq (.reg [⟨some 18,none,.ld (some 8) (.t 5)⟩,⟨some 19,none,.call 44 [(.t 18)]⟩,⟨some 7,none,.mov (.t 19)⟩]) (.seq (.drw true [9,10] [⟨some 20,none,.mov (.t 0)⟩,⟨some 21,none,.build 8 [(8,(.int .u8 0))] []⟩,⟨some 22,none,.ld (some 8) (.t 5)⟩,⟨some 23,none,.mov (.t 0)⟩,⟨some 24,none,.mov (.t 7)⟩,⟨some 25,none,.ia 8 1 (.t 5) (.t 24)⟩,⟨some 26,none,.ld none (.t 25)⟩,⟨some 27,none,.call 45 [(.t 23),(.t 26)]⟩,⟨some 28,none,.cv .i64 (.t 27)⟩,⟨some 29,none,.call 42 [(.t 20),(.t 21),(.t 22),(.t 28)]⟩,⟨none,none,.st 8 (.t 5) (.t 29)⟩]) (.seq (.reg [⟨some 30,none,.bsl 32 0 8 [(8,(.int .u8 0))] []⟩,⟨some 8,none,.mov (.t 30)⟩,⟨some 9,none,.mov (.c (.bool false))⟩]) (.seq (.seq (.reg [⟨some 10,none,.mov (.c (.int .i64 0))⟩]) (.block 0 (.loop (.seq (.seq (.reg [⟨some 31,none,.mov (.t 10)⟩,⟨some 32,none,.mov (.t 1)⟩,⟨some 33,none,.len (.t 32)⟩,⟨some 34,none,.bin .lss (.t 31) (.t 33)⟩]) (.cond (.t 34) .skip (.exit 0))) (.seq (.block 1 (.seq (.seq (.reg [⟨some 37,none,.mov (.t 9)⟩,⟨some 38,none,.un .not (.t 37)⟩,⟨some 39,none,.mov (.t 38)⟩,⟨some 40,(some (39,true)),.mov (.t 1)⟩,⟨some 41,(some (39,true)),.mov (.t 10)⟩,⟨some 42,(some (39,true)),.isl 8 (.t 40) (.t 41)⟩,⟨some 43,(some (39,true)),.ld (some 8) (.t 42)⟩,⟨some 44,(some (39,true)),.call 44 [(.t 43)]⟩,⟨some 45,(some (39,true)),.mov (.t 7)⟩,⟨some 46,(some (39,true)),.bin .gtr (.t 44) (.t 45)⟩,⟨some 47,none,.pick (.t 39) (.t 46) (.c (.bool false))⟩]) (.cond (.t 47) (.seq (.reg [⟨some 48,none,.mov (.t 8)⟩,⟨some 49,none,.ld (some 8) (.t 5)⟩,⟨some 50,none,.bsl 32 1 8 [(8,(.int .u8 0))] [(0,8,(.t 49))]⟩,⟨some 51,none,.app 32 8 8 [(8,(.int .u8 0))] (.t 48) (.t 50)⟩,⟨some 8,none,.mov (.t 51)⟩]) (.reg [⟨some 9,none,.mov (.c (.bool true))⟩])) .skip)) (.mixt [⟨some 52,none,.mov (.t 8)⟩,⟨some 53,none,.mov (.t 0)⟩,⟨some 54,none,.mov (.t 1)⟩,⟨some 55,none,.mov (.t 10)⟩,⟨some 56,none,.isl 8 (.t 54) (.t 55)⟩,⟨some 57,none,.ld (some 8) (.t 56)⟩,⟨some 58,none,.ld (some 8) (.t 5)⟩,⟨some 59,none,.mov (.t 1)⟩,⟨some 60,none,.mov (.t 10)⟩,⟨some 61,none,.mov (.t 7)⟩,⟨some 62,none,.isl 8 (.t 59) (.t 60)⟩,⟨some 63,none,.ia 8 1 (.t 62) (.t 61)⟩,⟨some 64,none,.ld none (.t 63)⟩,⟨some 65,none,.cv .i64 (.t 64)⟩,⟨some 66,none,.un .neg (.t 65)⟩,⟨some 67,none,.call 42 [(.t 53),(.t 57),(.t 58),(.t 66)]⟩] [] [⟨some 52,none,.mov (.t 8)⟩,⟨some 53,none,.mov (.t 0)⟩,⟨some 54,none,.mov (.t 1)⟩,⟨some 55,none,.mov (.t 10)⟩,⟨some 56,none,.isl 8 (.t 54) (.t 55)⟩,⟨some 57,none,.ld (some 8) (.t 56)⟩,⟨some 58,none,.ld (some 8) (.t 5)⟩,⟨some 59,none,.mov (.t 1)⟩,⟨some 60,none,.mov (.t 10)⟩,⟨some 61,none,.mov (.t 7)⟩,⟨some 62,none,.isl 8 (.t 59) (.t 60)⟩,⟨some 63,none,.ia 8 1 (.t 62) (.t 61)⟩,⟨some 64,none,.ld none (.t 63)⟩,⟨some 65,none,.cv .i64 (.t 64)⟩,⟨some 66,none,.un .neg (.t 65)⟩,⟨some 67,none,.call 42 [(.t 53),(.t 57),(.t 58),(.t 66)]⟩,⟨some 68,none,.bsl 32 1 8 [(8,(.int .u8 0))] [(0,8,(.t 67))]⟩,⟨some 69,none,.app 32 8 8 [(8,(.int .u8 0))] (.t 52) (.t 68)⟩,⟨some 8,none,.mov (.t 69)⟩] (.seg 16 (.seg 17 (.seg 18 .done)))))) (.reg [⟨some 35,none,.mov (.t 10)⟩,⟨some 36,none,.bin .add (.t 35) (.c (.int .i64 1))⟩,⟨some 10,none,.mov (.t 36)⟩])))))) (.seq (.seq (.reg [⟨some 70,none,.mov (.t 9)⟩,⟨some 71,none,.un .not (.t 70)⟩]) (.cond (.t 71) (.reg [⟨some 72,none,.mov (.t 8)⟩,⟨some 73,none,.ld (some 8) (.t 5)⟩,⟨some 74,none,.bsl 32 1 8 [(8,(.int .u8 0))] [(0,8,(.t 73))]⟩,⟨some 75,none,.app 32 8 8 [(8,(.int .u8 0))] (.t 72) (.t 74)⟩,⟨some 8,none,.mov (.t 75)⟩]) .skip)) (.seq (.reg [⟨some 76,none,.mov (.t 8)⟩,⟨some 6,none,.mov (.t 76)⟩]) .ret)))))))))

set_option maxRecDepth 100000 in
theorem tr18 : trFn Tryz.prog Tryz.f18 = some (77, ir18, [.tmp 6]) := by kernel_rfl

theorem spec_l01Put (p : Int) (A : Nat → Nat → Int) (d b : Nat) (P : Nat → Nat) (sv : SV) (v : Nat → Int) (H : Hp) (n : Nat) (hp : isP p = true) (hL : VL H sv d A b) (hR : RR p A d P) (hv : isRes p 8 v) :
    FnS Tryz.prog 18 [i64 p, .s sv, .arr 8 (bys v)] H n (fun r H' n' => ∃ sv' A' d' P' b', r = .s sv' ∧ VL H' sv' d' A' b' ∧ RR p A' d' P' ∧ same p A' d' (snc A d v) (d + 1) ∧ (b' = b ∨ n ≤ b') ∧ b' < n' ∧ (∀ x, n' ≤ x → H'.get x = none) ∧ ∀ x, x < n → H'.get x = H.get x) := by
  have hb := isP_le hp
  have hd8 := hR.d8
  have hL' := hL
  obtain ⟨o, cap, K, rfl, gb, ho, hmc, hc⟩ := hL
  refine FnS.of_body Tryz.func18 tr18 (by simp) (fun hf => ?_)
  dsimp only [argEnv]
  unfold ir18
  have hbn := getlt hf gb
  (refine zG ?_)
  refine RS.call rfl ((spec_l01By p A d b (.slc b o d cap) v _ _ hb (by omega) (hL'.keep (by simp (disch := omega) only [Hp.get_ne])) hR.res (fun i hi => by rw [hR.fsn hi]; exact hR.lt i hi) hv).mono ?_)
  rintro r H' n1 hn1 ⟨rfl, rfl⟩
  have hrk : isRes p 8 (rdk p A v d) := rdk_res hb.1 hv d
  obtain ⟨U, hU⟩ : ∃ U, U = rdk p A v d := ⟨_, rfl⟩
  rw [← hU] at hrk ⊢
  (refine zG ?_)
  refine RS.call rfl ((spec_l01Zero U _ _).mono ?_)
  rintro r H' n2 hn2 ⟨rfl, rfl⟩
  (refine zG ?_)
  refine zI ?_ ?_<;>intro h1
  · (refine zG ?_)
    exact ⟨.s (.slc b o d cap), H, rfl, by exact zD, _, A, d, P, b, rfl, hL', hR, put_zero (fun x hx => by rw [← hU]; exact h1 x hx), .inl rfl, by omega, fun x hx => hf x (by omega), fun x hx => rfl⟩
  · have hz0 : fsn U 8 < 8 := by
      rcases Nat.lt_or_ge (fsn U 8) 8 with h | h
      · exact h
      · exact absurd (fun q hq => fsn_low U 8 q (by omega)) h1
    have hu1 : (bys U) (fsn U 8) = .int .u8 (U (fsn U 8)) := rfl
    have hub := hrk (fsn U 8) hz0
    have hne0 : U (fsn U 8) % p ≠ 0 := by rw [modSelf hub]; exact fsn_hit U 8 hz0
    have hinv := inv_spec hp hne0
    obtain ⟨V, hV⟩ : ∃ V, V = pl p (fun _ => 0) (inv p (U (fsn U 8))) U := ⟨_, rfl⟩
    obtain ⟨hVr, hV1, hV0, hVz, hPq, hsm⟩ := put_one hp hR hv hU hV hz0
    (refine zG ?_)
    refine RS.call rfl ((spec_l01First U _ _).mono ?_)
    rintro r H' n3 hn3 ⟨rfl, rfl⟩
    (refine zG ?_)
    refine LS.callQ (u8 (inv p (U (fsn U 8)))) rfl (fun n' hn' => spec_l01Inverse p (U (fsn U 8)) _ _ hp (by omega) hne0) ?_
    (repeat first|refine zG ?_|(refine LS.nilQ ?_;try with_reducible intro nq hnq;try refine zU ?_))
    refine RS.call rfl ((FnS.args (concs_cons rfl (concs_cons (conc_arr (fun q hq => rfl)) rfl)) (spec_l01AddN p (inv p (U (fsn U 8))) (fun _ => 0) U _ _ hb (fun _ _ => ⟨by (try dsimp only); omega, by (try dsimp only); omega⟩) (isRes.by hrk hb.2) (by omega))).mono ?_)
    rintro r H' n4 hn4 ⟨rfl, rfl⟩
    rw [← hV]
    (refine zG ?_)
    generalize fsn U 8 = q at *
    obtain ⟨i0, hi0, hlo, hhi⟩ := hR.at hPq
    have hRR := hR.ins hb.1 hVr hz0 hV1 hV0 hVz hi0 hlo hhi
    have hSI := sub_ins (p := p) (A := A) (v := V) (q := q) hi0
    have hsame : same p (ins p A V q i0) (d + 1) (snc A d v) (d + 1) := same_trans hSI hsm
    refine CS.weak (e1 := [(10, i64 ((0 : Nat) : Int)), (0, i64 p), (1, .s (.slc b o d cap)), (5, ptr n 0), (7, i64 (q : Nat)), (8, .s (.slc n4 0 0 0)), (9, bl false)]) (by (repeat first | exact trivial | refine And.intro rfl ?_)) (Drops.refl _ _) ?_
    refine CS.loop (fun k e H1 n1 => ∃ i v8 b8, i ≤ d ∧ k = d - i ∧ e = [(10, i64 (i : Nat)), (0, i64 p), (1, .s (.slc b o d cap)), (5, ptr n 0), (7, i64 (q : Nat)), (8, .s v8), (9, bl (tb (i0 < i)))] ∧ VL H1 v8 (if i0 < i then i + 1 else i) (ins p A V q i0) b8 ∧ n < b8 ∧ b8 < n1 ∧ H1.get n = some ⟨8, bys V, 32⟩ ∧ (∀ x, x < n → H1.get x = H.get x) ∧ ∀ x, n1 ≤ x → H1.get x = none) d ?_ ?_
    · refine ⟨0, _, n4, by omega, rfl, by rw [tb_false (by omega)], by rw [if_neg (by omega)]; exact ⟨0, 0, _, rfl, by exact zH, by simp, Nat.le_refl _, fun i x hi => by omega⟩, by omega, by omega, by exact zH, fun x hx => by simp (disch := omega) only [Hp.get_ne], fun x hx => by simp (disch := omega) only [Hp.get_ne]; exact hf x (by omega)⟩
    rintro k e H1 n5 hn5 ⟨i, v8, b8, hi, rfl, rfl, hV8, hb8, hb8n, gn1, hlow1, hfr1⟩
    have gb1 : H1.get b = some K := by rw [hlow1 b hbn]; exact gb
    obtain ⟨o8, c8, K8, hv8, gb8, _⟩ := id hV8
    (refine zG ?_)
    refine zI ?_ ?_<;>intro h2
    · have hi' : i < d := by omega
      have e9 : ∀ x, x < 8 → K.c (o + i * 8 + x) = .int .u8 (A i x) := fun x hx => by rw [Nat.add_assoc]; exact hc i x hi' hx
      have eAq : K.c (o + (i * 8 + q)) = .int .u8 (A i q) := hc i q hi' hz0
      have hAb : isBy 8 (A i) := isRes.by (hR.res i hi') hb.2
      have hAq := hR.res i hi' q hz0
      have hfs := hR.fsn hi'
      by_cases hpl : i0 < i
      · rw [if_pos hpl] at hV8
        rw [tb_true hpl]
        (refine zG ?_)
        refine CS.mixtL [] (Ext.nil _) ?_
        (refine zG ?_)
        refine RS.neg64 (by exact rfl) (by omega) ?_
        (repeat first|refine zG ?_|(refine LS.nilO ?_;intro nq hnq hltq;try refine zU ?_)|(refine MS.new ?_;intro bq hbq hbqf;try refine zU ?_)|(refine MS.nil ?_;intro nq hnq hltq;have hlq:=hltq _ _ (Hp.get_eq _ _ _);clear hltq;try refine zU ?_)|(refine LS.nilQ ?_;try with_reducible intro nq hnq;try refine zU ?_))
        refine LS.callQ (.arr 8 (bys (pl p (A i) (-(A i q)) V))) rfl (fun n' hn' => spec_l01AddN p (-(A i q)) (A i) V _ _ hb hAb (isRes.by hVr hb.2) (by omega)) ?_
        (repeat first|refine zG ?_|(refine LS.nilQ ?_;try with_reducible intro nq hnq;try refine zU ?_))
        refine MTW.seg ?_; dsimp only [OT.os, OT.rest, pick, List.filterMap_cons, List.getElem?_cons_zero, List.getElem?_cons_succ, List.filterMap_nil]
        refine MS.bsl rfl ?_
        intro b7 hb7 hf7
        have h8n := (hV8).bound hfr1
        refine MS.appV (w := pl p (A i) (-(A i q)) V) (by exact rfl) (by exact rfl) (VL.keep hV8 (Hp.get_ne _ _ (by omega))) (Hp.get_eq _ _ _) rfl (fun q hq => by (try dsimp only); unfold splice; rw [if_pos (by omega), Nat.sub_zero]; rfl) (by omega) rfl ?_
        intro v9 b9 H4 kk hV9 hb9 gb9 l4
        refine MS.mov (by exact rfl) ?_
        refine MS.nil (MTW.done ?_)
        intro n5 hn5 hlt5
        have hb9n := hlt5 b9 kk gb9
        have hb9g : n < b9 := by rcases hb9 with e | ⟨e, _⟩ <;> omega
        (refine zG ?_)
        refine ⟨d - (i + 1), [(10, i64 ((i + 1 : Nat) : Int)), (0, i64 p), (1, .s (.slc b o d cap)), (5, ptr n 0), (7, i64 (q : Nat)), (8, .s v9), (9, bl true)], H4, by omega, by (repeat first | exact trivial | refine And.intro rfl ?_), Drops.refl _ _, i + 1, v9, b9, by omega, rfl, by rw [tb_true (by omega)], (by
          rw [if_pos (by omega)]
          exact hV9.same (fun k x hk hx => by
            unfold snc
            by_cases e : k = i + 1
            · rw [if_pos e, e]; unfold ins; rw [if_neg (by omega), if_neg (by omega), Nat.add_sub_cancel]
            · rw [if_neg e])), hb9g, hb9n, by rw [l4 n (by omega), Hp.get_ne _ _ (by omega)]; exact gn1, fun x hx => by rw [l4 x (by omega), Hp.get_ne _ _ (by omega)]; exact hlow1 x hx, fun x hx => ?_⟩
        cases qq : H4.get x with
        | none => rfl
        | some k => have := hlt5 x k qq; omega
      · rw [if_neg hpl] at hV8
        rw [tb_false hpl]
        (refine zG ?_)
        refine RS.call rfl ((spec_l01First (A i) _ _).mono ?_)
        rintro r H1 n6 hn6 ⟨rfl, rfl⟩
        rw [hfs]
        (refine zG ?_)
        refine zI ?_ ?_<;>intro h4
        · have hii : i0 = i := by
            rcases Nat.lt_or_ge i i0 with h | h
            · have := hlo i h; omega
            · omega
          (refine zG ?_)
          refine RS.appV (w := V) (by exact rfl) (by exact rfl) (hV8.keep (Hp.get_ne _ _ (by omega))) (Hp.get_eq _ _ _) rfl (fun q hq => by (try dsimp only); unfold splice; rw [if_pos (by omega), Nat.sub_zero]; rfl) (by omega) (by rw [Hp.get_ne _ _ (by omega)]; exact hfr1 _ (by omega)) (by omega) ?_
          intro vB bB HB nB hVB0 hbB hltB hnB hnB' hgB
          have hVB : VL HB vB (i + 1) (ins p A V q i0) bB := hVB0.same (fun k x hk hx => by
            unfold snc
            by_cases e : k = i
            · rw [if_pos e, e]; unfold ins; rw [if_neg (by omega), if_pos hii.symm]
            · rw [if_neg e])
          have hfr2 : ∀ x, nB ≤ x → HB.get x = none := fun x hx => by rw [hgB x (by omega), Hp.get_ne _ _ (by omega)]; exact hfr1 x (by omega)
          have gn2 : HB.get n = some ⟨8, bys V, 32⟩ := by rw [hgB n (by omega), Hp.get_ne _ _ (by omega)]; exact gn1
          have hlow2 : ∀ x, x < n → HB.get x = H.get x := fun x hx => by rw [hgB x (by omega), Hp.get_ne _ _ (by omega)]; exact hlow1 x hx
          have gb2 : HB.get b = some K := by rw [hlow2 b hbn]; exact gb
          (refine zG ?_)
          refine CS.mixtL [] (Ext.nil _) ?_
          (refine zG ?_)
          refine RS.neg64 (by exact rfl) (by omega) ?_
          (repeat first|refine zG ?_|(refine LS.nilO ?_;intro nq hnq hltq;try refine zU ?_)|(refine MS.new ?_;intro bq hbq hbqf;try refine zU ?_)|(refine MS.nil ?_;intro nq hnq hltq;have hlq:=hltq _ _ (Hp.get_eq _ _ _);clear hltq;try refine zU ?_)|(refine LS.nilQ ?_;try with_reducible intro nq hnq;try refine zU ?_))
          refine LS.callQ (.arr 8 (bys (pl p (A i) (-(A i q)) V))) rfl (fun n' hn' => spec_l01AddN p (-(A i q)) (A i) V _ _ hb hAb (isRes.by hVr hb.2) (by omega)) ?_
          (repeat first|refine zG ?_|(refine LS.nilQ ?_;try with_reducible intro nq hnq;try refine zU ?_))
          refine MTW.seg ?_; dsimp only [OT.os, OT.rest, pick, List.filterMap_cons, List.getElem?_cons_zero, List.getElem?_cons_succ, List.filterMap_nil]
          refine MS.bsl rfl ?_
          intro b7 hb7 hf7
          have h8n := (hVB).bound hfr2
          refine MS.appV (w := pl p (A i) (-(A i q)) V) (by exact rfl) (by exact rfl) (VL.keep hVB (Hp.get_ne _ _ (by omega))) (Hp.get_eq _ _ _) rfl (fun q hq => by (try dsimp only); unfold splice; rw [if_pos (by omega), Nat.sub_zero]; rfl) (by omega) rfl ?_
          intro v9 b9 H4 kk hV9 hb9 gb9 l4
          refine MS.mov (by exact rfl) ?_
          refine MS.nil (MTW.done ?_)
          intro n5 hn5 hlt5
          have hb9n := hlt5 b9 kk gb9
          have hb9g : n < b9 := by rcases hb9 with e | ⟨e, _⟩ <;> omega
          (refine zG ?_)
          refine ⟨d - (i + 1), [(10, i64 ((i + 1 : Nat) : Int)), (0, i64 p), (1, .s (.slc b o d cap)), (5, ptr n 0), (7, i64 (q : Nat)), (8, .s v9), (9, bl true)], H4, by omega, by (repeat first | exact trivial | refine And.intro rfl ?_), Drops.refl _ _, i + 1, v9, b9, by omega, rfl, by rw [tb_true (by omega)], (by
            rw [if_pos (by omega)]
            exact hV9.same (fun k x hk hx => by
              unfold snc
              by_cases e : k = i + 1
              · rw [if_pos e, e]; unfold ins; rw [if_neg (by omega), if_neg (by omega), Nat.add_sub_cancel]
              · rw [if_neg e])), hb9g, hb9n, by rw [l4 n (by omega), Hp.get_ne _ _ (by omega)]; exact gn2, fun x hx => by rw [l4 x (by omega), Hp.get_ne _ _ (by omega)]; exact hlow2 x hx, fun x hx => ?_⟩
          cases qq : H4.get x with
          | none => rfl
          | some k => have := hlt5 x k qq; omega
        · have hii : i < i0 := by
            rcases Nat.lt_or_ge i i0 with h | h
            · exact h
            · have := hhi i h hi'; omega
          (refine zG ?_)
          refine CS.mixtL [] (Ext.nil _) ?_
          (refine zG ?_)
          refine RS.neg64 (by exact rfl) (by omega) ?_
          (repeat first|refine zG ?_|(refine LS.nilO ?_;intro nq hnq hltq;try refine zU ?_)|(refine MS.new ?_;intro bq hbq hbqf;try refine zU ?_)|(refine MS.nil ?_;intro nq hnq hltq;have hlq:=hltq _ _ (Hp.get_eq _ _ _);clear hltq;try refine zU ?_)|(refine LS.nilQ ?_;try with_reducible intro nq hnq;try refine zU ?_))
          refine LS.callQ (.arr 8 (bys (pl p (A i) (-(A i q)) V))) rfl (fun n' hn' => spec_l01AddN p (-(A i q)) (A i) V _ _ hb hAb (isRes.by hVr hb.2) (by omega)) ?_
          (repeat first|refine zG ?_|(refine LS.nilQ ?_;try with_reducible intro nq hnq;try refine zU ?_))
          refine MTW.seg ?_; dsimp only [OT.os, OT.rest, pick, List.filterMap_cons, List.getElem?_cons_zero, List.getElem?_cons_succ, List.filterMap_nil]
          refine MS.bsl rfl ?_
          intro b7 hb7 hf7
          have h8n := (hV8).bound hfr1
          refine MS.appV (w := pl p (A i) (-(A i q)) V) (by exact rfl) (by exact rfl) (VL.keep hV8 (Hp.get_ne _ _ (by omega))) (Hp.get_eq _ _ _) rfl (fun q hq => by (try dsimp only); unfold splice; rw [if_pos (by omega), Nat.sub_zero]; rfl) (by omega) rfl ?_
          intro v9 b9 H4 kk hV9 hb9 gb9 l4
          refine MS.mov (by exact rfl) ?_
          refine MS.nil (MTW.done ?_)
          intro n5 hn5 hlt5
          have hb9n := hlt5 b9 kk gb9
          have hb9g : n < b9 := by rcases hb9 with e | ⟨e, _⟩ <;> omega
          (refine zG ?_)
          refine ⟨d - (i + 1), [(10, i64 ((i + 1 : Nat) : Int)), (0, i64 p), (1, .s (.slc b o d cap)), (5, ptr n 0), (7, i64 (q : Nat)), (8, .s v9), (9, bl false)], H4, by omega, by (repeat first | exact trivial | refine And.intro rfl ?_), Drops.refl _ _, i + 1, v9, b9, by omega, rfl, by rw [tb_false (by omega)], (by
            rw [if_neg (by omega)]
            exact hV9.same (fun k x hk hx => by
              unfold snc
              by_cases e : k = i
              · rw [if_pos e, e]; unfold ins; rw [if_pos (by omega)]
              · rw [if_neg e])), hb9g, hb9n, by rw [l4 n (by omega), Hp.get_ne _ _ (by omega)]; exact gn1, fun x hx => by rw [l4 x (by omega), Hp.get_ne _ _ (by omega)]; exact hlow1 x hx, fun x hx => ?_⟩
          cases qq : H4.get x with
          | none => rfl
          | some k => have := hlt5 x k qq; omega
    · obtain rfl : d = i := by omega
      by_cases hpl : i0 < d
      · rw [if_pos hpl] at hV8
        rw [tb_true hpl]
        (refine zG ?_)
        exact ⟨.s v8, H1, rfl, Drops.refl _ _, v8, ins p A V q i0, d + 1, _, b8, rfl, hV8, hRR, hsame, .inr (by omega), by omega, fun x hx => hfr1 x (by omega), hlow1⟩
      · rw [if_neg hpl] at hV8
        rw [tb_false hpl]
        (refine zG ?_)
        refine RS.appV (w := V) (by exact rfl) (by exact rfl) (hV8.keep (Hp.get_ne _ _ (by omega))) (Hp.get_eq _ _ _) rfl (fun q hq => by (try dsimp only); unfold splice; rw [if_pos (by omega), Nat.sub_zero]; rfl) (by omega) (by rw [Hp.get_ne _ _ (by omega)]; exact hfr1 _ (by omega)) (by omega) ?_
        intro vB bB HB nB hVB0 hbB hltB hnB hnB' hgB
        have hVB : VL HB vB (d + 1) (ins p A V q i0) bB := hVB0.same (fun k x hk hx => by
          unfold snc
          by_cases e : k = d
          · rw [if_pos e, e]; unfold ins; rw [if_neg (by omega), if_pos (by omega)]
          · rw [if_neg e])
        (refine zG ?_)
        exact ⟨.s vB, HB, rfl, Drops.refl _ _, vB, ins p A V q i0, d + 1, _, bB, rfl, hVB, hRR, hsame, .inr (by omega), by omega, fun x hx => by rw [hgB x (by omega), Hp.get_ne _ _ (by omega)]; exact hfr1 x (by omega), fun x hx => by rw [hgB x (by omega), Hp.get_ne _ _ (by omega)]; exact hlow1 x hx⟩

/-- spec.l01Reduce -/
def ir14 : Cd := (.seq (.reg [⟨some 4,none,.mov (.c .nils)⟩]) (.seq (.reg [⟨some 7,none,.bsl 32 0 8 [(8,(.int .u8 0))] []⟩,⟨some 5,none,.mov (.t 7)⟩]) (.seq (.seq (.reg [⟨some 6,none,.mov (.c (.int .i64 0))⟩]) (.block 0 (.loop (.seq (.seq (.reg [⟨some 8,none,.mov (.t 6)⟩,⟨some 9,none,.mov (.t 1)⟩,⟨some 10,none,.len (.t 9)⟩,⟨some 11,none,.bin .lss (.t 8) (.t 10)⟩]) (.cond (.t 11) .skip (.exit 0))) (.seq (.block 1 (.reg [⟨some 14,none,.mov (.t 0)⟩,⟨some 15,none,.mov (.t 5)⟩,⟨some 16,none,.mov (.t 1)⟩,⟨some 17,none,.mov (.t 6)⟩,⟨some 18,none,.isl 8 (.t 16) (.t 17)⟩,⟨some 19,none,.ld (some 8) (.t 18)⟩,⟨some 20,none,.call 18 [(.t 14),(.t 15),(.t 19)]⟩,⟨some 5,none,.mov (.t 20)⟩])) (.reg [⟨some 12,none,.mov (.t 6)⟩,⟨some 13,none,.bin .add (.t 12) (.c (.int .i64 1))⟩,⟨some 6,none,.mov (.t 13)⟩])))))) (.seq (.reg [⟨some 21,none,.mov (.t 5)⟩,⟨some 4,none,.mov (.t 21)⟩]) .ret))))

set_option maxRecDepth 100000 in
theorem tr14 : trFn Tryz.prog Tryz.f14 = some (22, ir14, [.tmp 4]) := by kernel_rfl

theorem spec_l01Reduce (p : Int) (A : Nat → Nat → Int) (m b : Nat) (sv : SV) (H : Hp) (n : Nat) (hp : isP p = true) (hm : m ≤ 1000000) (hL : VL H sv m A b) (hA : ∀ i, i < m → isRes p 8 (A i)) :
    FnS Tryz.prog 14 [i64 p, .s sv] H n (fun r H' n' => ∃ sv' A' d' P' b', r = .s sv' ∧ VL H' sv' d' A' b' ∧ RR p A' d' P' ∧ same p A' d' A m ∧ n ≤ b' ∧ b' < n' ∧ (∀ x, n' ≤ x → H'.get x = none) ∧ ∀ x, x < n → H'.get x = H.get x) := by
  have hb := isP_le hp
  obtain ⟨o, cap, K, rfl, gb, ho, hmc, hc⟩ := hL
  refine FnS.of_body Tryz.func14 tr14 (by simp) (fun hf => ?_)
  dsimp only [argEnv]
  unfold ir14
  have hbn := getlt hf gb
  (refine zG ?_)
  refine CS.weak (e1 := [(6, i64 ((0 : Nat) : Int)), (0, i64 p), (1, .s (.slc b o m cap)), (5, .s (.slc n 0 0 0))]) (by (repeat first | exact trivial | refine And.intro rfl ?_)) (Drops.refl _ _) ?_
  refine CS.loop (fun k e H1 n1 => ∃ i v5 b5 A' d' P', i ≤ m ∧ k = m - i ∧ e = [(6, i64 (i : Nat)), (0, i64 p), (1, .s (.slc b o m cap)), (5, .s v5)] ∧ VL H1 v5 d' A' b5 ∧ RR p A' d' P' ∧ same p A' d' A i ∧ n ≤ b5 ∧ b5 < n1 ∧ (∀ x, x < n → H1.get x = H.get x) ∧ ∀ x, n1 ≤ x → H1.get x = none) m ?_ ?_
  · refine ⟨0, _, n, fun _ _ => 0, 0, fun _ => 0, by omega, rfl, rfl, ⟨0, 0, _, rfl, by exact zH, by simp, Nat.le_refl _, fun i x hi => by omega⟩, ⟨fun k hk => by omega, fun k hk => by omega, fun k k' h1 h2 => by omega, fun k hk => by omega, fun k j hk => by omega, fun k x hk => by omega⟩, ⟨fun k hk => by omega, fun k hk => by omega⟩, by omega, by omega, fun x hx => by simp (disch := omega) only [Hp.get_ne], fun x hx => by simp (disch := omega) only [Hp.get_ne]; exact hf x (by omega)⟩
  rintro k e H1 n1 hn1 ⟨i, v5, b5, A', d', P', hi, rfl, rfl, hV5, hRR, hsm, hb5, hb5n, hlow, hfr⟩
  have gb1 : H1.get b = some K := by rw [hlow b hbn]; exact gb
  (refine zG ?_)
  refine zI ?_ ?_<;>intro h2
  · have hi' : i < m := by omega
    have e9 : ∀ x, x < 8 → K.c (o + i * 8 + x) = .int .u8 (A i x) := fun x hx => by rw [Nat.add_assoc]; exact hc i x hi' hx
    (refine zG ?_)
    refine RS.call rfl ((spec_l01Put p A' d' b5 P' v5 (A i) _ _ hp hV5 hRR (hA i hi')).mono ?_)
    rintro r H2 n2 hn2 ⟨v6, A2, d2, P2, b6, rfl, hV6, hRR2, hsm2, hb6, hb6n, hfr2, hlow2⟩
    (refine zG ?_)
    refine ⟨m - (i + 1), [(6, i64 ((i + 1 : Nat) : Int)), (0, i64 p), (1, .s (.slc b o m cap)), (5, .s v6)], H2, by omega, by (repeat first | exact trivial | refine And.intro rfl ?_), Drops.refl _ _, i + 1, v6, b6, A2, d2, P2, by omega, rfl, rfl, hV6, hRR2, same_trans hsm2 (same_trans (same_snc hsm (A i)) (same_congr (fun k x hk hx => snc_at A i k x))), by rcases hb6 with e | e <;> omega, hb6n, fun x hx => by rw [hlow2 x (by omega)]; exact hlow x hx, hfr2⟩
  · obtain rfl : m = i := by omega
    (refine zG ?_)
    exact ⟨.s v5, H1, rfl, Drops.refl _ _, v5, A', d', P', b5, rfl, hV5, hRR, hsm, hb5, hb5n, hfr, hlow⟩

end Go.Proofs.YtideblodkkgodaaGreat

/- Reduced lists, the program's: systems without rows; a row more of eight bytes and 0. -/

namespace Go.V

variable [BW]

set_option linter.unusedSimpArgs false

set_option linter.unusedVariables false

section

variable {P : Program} {N m : Nat} {e : Env} {H : Hp} {n : Nat} {l : List Ins} {d : Option Nat} {D : Md}

theorem RS.slsN1 {x lo : X} {sz : Nat} {k : IntKind} (hx : x.ev e = some (.s .nils)) (hi' : lo.ev e = some (.s (.int k 0))) (h : LS P N m D l (putD d (.s .nils) e) H n) : LS P N m D (⟨d, none, .sls sz x (some lo) none none⟩ :: l) e H n :=
  LS.pv (by simp only [PV, hx, bndV, hi']; refine ⟨by simp, by simp, ?_⟩; simpa using h)

theorem RS.slsN2 {x hi : X} {sz : Nat} {k : IntKind} (hx : x.ev e = some (.s .nils)) (hi' : hi.ev e = some (.s (.int k 0))) (h : LS P N m D l (putD d (.s .nils) e) H n) : LS P N m D (⟨d, none, .sls sz x none (some hi) none⟩ :: l) e H n :=
  LS.pv (by simp only [PV, hx, bndV, hi']; refine ⟨by simp, by simp, ?_⟩; simpa using h)

/-- The end of the region in which one more row is appended. -/
theorem red_tail {K : Env → Hp → Prop} {F : Hp} {ll : List Ins} {t1 t2 : TypeId} {z1 z2 z3 : Zs} {sb i rb bC capC b2 : Nat} {ks kC k2 : Blk} {v3 : SV} {G : Nat → SV} {w : Nat → Int}
    (h8 : ll[8]? = some ⟨some 27, none, .app t1 1 1 z1 (.t 25) (.t 26)⟩) (h9 : ll[9]? = some ⟨some 28, none, .bsl t2 1 1 z2 [(0, 1, .t 27)]⟩) (h10 : ll[10]? = some ⟨some 29, none, .app t2 1 24 z3 (.t 23) (.t 28)⟩) (h11 : ll[11]? = some ⟨some 30, none, .ck (.t 19)⟩)
    (h12 : ll[12]? = some ⟨some 31, none, .fa 3 (.t 30)⟩) (h13 : ll[13]? = some ⟨none, none, .st 1 (.t 31) (.t 29)⟩)
    (e25 : e.get 25 = some (.s (.slc bC 0 8 capC))) (e26 : e.get 26 = some (.s (.slc b2 0 1 1))) (e23 : e.get 23 = some (.s v3)) (e19 : e.get 19 = some (.s (.ptr sb 0)))
    (hE : Ext [(sb, ks)] H) (gC : H.get bC = some kC) (sC : capC ≤ kC.size) (hc8 : 8 ≤ capC) (cC : ∀ x, x < 8 → kC.c x = .int .u8 (w x)) (g2 : H.get b2 = some k2) (s2 : k2.size = 1) (c2 : k2.c 0 = .int .u8 0)
    (hV : SL H v3 i G rb) (hi : i ≤ 4000000) (hCs : bC ≠ sb) (hrs : rb ≠ sb) (hrC : rb ≠ bC) (hss : ks.size = 5)
    (h : ∀ v' b' b28 bR capR kR H', 9 ≤ capR → H'.get bR = some kR → capR ≤ kR.size → (∀ x, x < 8 → kR.c x = .int .u8 (w x)) → kR.c 8 = .int .u8 0 → (bR = bC ∨ n ≤ bR ∧ H.get bR = none) → SL H' v' (i + 1) (snS G i (.slc bR 0 9 capR)) b' → (b' = rb ∧ v3 ≠ .nils ∨ n ≤ b' ∧ H.get b' = none) → b' ≠ bR → bR ≠ sb → b' ≠ sb →
      H'.get sb = some ⟨ks.size, put1 ks.c 3 v', ks.ty⟩ → (∀ x, x < n → x ≠ sb → x ≠ bR → x ≠ b' → H'.get x = H.get x) → K (putD (some 31) (.s (.ptr sb (0 + 3))) (putD (some 30) (.s (.ptr sb 0)) (putD (some 29) (.s v') (putD (some 28) (.s (.slc b28 0 1 1)) (putD (some 27) (.s (.slc bR 0 9 capR)) e))))) H') :
    OFT P N m ll (.seg 8 (.seg 9 (.seg 10 (.seg 11 (.seg 12 (.seg 13 .done)))))) e H [(sb, ks)] n K := by
  have gsb : ∀ {H' : Hp}, Ext [(sb, ks)] H' → H'.get sb = some ks := fun hE' => hE' sb ks (Hp.get_eq _ _ _)
  have hFn : ∀ {x : Nat}, x ≠ sb → Hp.get [(sb, ks)] x = none := fun hx => by rw [Hp.get_ne _ _ (fun q => hx q.symm)]; rfl
  refine OFT.seg h8 (by intro q; cases q) (ST.app1 hE (by exact e25) (by exact e26) gC sC hc8 cC g2 s2 c2 (hFn hCs) ?_)
  intro bR capR kR HR gR sR hR9 cR cR8 hbR lR hER
  have hRs : bR ≠ sb := by
    rcases hbR with q | ⟨_, q⟩
    · rw [q]; exact hCs
    · intro e1; rw [e1, gsb hE] at q; cases q
  refine OFT.seg h9 (by intro q; cases q) (ST.bsl hER rfl ?_)
  intro b28 hb28 hf28
  have hR28 : b28 ≠ bR := fun q => by have := hf28 b28 (Nat.le_refl _); rw [q, gR] at this; cases this
  have hE28 : Ext [(sb, ks)] ((b28, ⟨1 * 1, put1 (fun i => Zs.c z2 (i % 1)) 0 (.slc bR 0 9 capR), t2⟩) :: HR) := fun b' k' hb' => by
    have h1 := hER b' k' hb'
    rw [Hp.get_ne _ _ (fun q => by rw [← q, hf28 b28 (Nat.le_refl _)] at h1; cases h1)]; exact h1
  have hrR : v3 = .nils ∨ rb ≠ bR := by
    rcases hV with ⟨q, _⟩ | ⟨o, cap, k, _, gk, _⟩
    · exact .inl q
    · right
      rcases hbR with q | ⟨_, q⟩
      · rw [q]; exact hrC
      · intro e1; rw [← e1, gk] at q; cases q
  have hV2 : SL HR v3 i G rb := by
    rcases hrR with q | q
    · subst q
      rcases hV with ⟨_, q2⟩ | ⟨o, cap, k, q1, _⟩
      · exact .inl ⟨rfl, q2⟩
      · cases q1
    · exact hV.keep (lR rb q)
  refine OFT.seg h10 (by intro q; cases q) (ST.appS (w := .slc bR 0 9 capR) hE28 (by exact e23) (by exact rfl) (hV2.push (hf28 b28 (Nat.le_refl _))) (Hp.get_eq _ _ _) rfl (by simp [put1]) hi (by omega) (.inr (hFn hrs)) ?_)
  intro v' b' H2 kk hV' hb' gb' l2 hE2
  have hb'R : b' ≠ bR := by
    rcases hb' with ⟨q, q2⟩ | ⟨_, q⟩
    · rw [q]; exact hrR.resolve_left q2
    · intro e1; rw [e1, Hp.get_ne _ _ hR28, gR] at q; cases q
  have hb's : b' ≠ sb := by
    rcases hb' with ⟨q, _⟩ | ⟨_, q⟩
    · rw [q]; exact hrs
    · intro e1; rw [e1, gsb hE28] at q; cases q
  refine OFT.seg h11 (by intro q; cases q) (ST.ck (by exact e19) ?_)
  refine OFT.seg h12 (by intro q; cases q) (ST.fa (by exact rfl) ?_)
  refine OFT.st1 h13 (by exact rfl) (by exact rfl) (gsb hE2) (by omega) ?_
  refine h v' b' b28 bR capR kR _ hR9 (by rw [Hp.get_set_other _ (fun q => hRs q.symm), l2 bR (fun q => hb'R q.symm), Hp.get_ne _ _ hR28]; exact gR) sR cR cR8 hbR (hV'.keep (Hp.get_set_other _ (fun q => hb's q.symm))) ?_ hb'R hRs hb's (Hp.get_set_self _ (gsb hE2)) (fun x q1 q2 q3 q4 => ?_)
  · rcases hb' with q | ⟨q1, q2⟩
    · exact .inl q
    · refine .inr ⟨q1, ?_⟩
      have h28 : b28 ≠ b' := fun q => by rw [q, Hp.get_eq] at q2; cases q2
      rw [Hp.get_ne _ _ h28, lR b' hb'R] at q2
      exact q2
  · have h28 : b28 ≠ x := by omega
    rw [Hp.get_set_other _ (fun q => q2 q.symm), l2 x q4, Hp.get_ne _ _ h28, lR x q3]

end

end Go.V

namespace Go.Proofs.YtideblodkkgodaaGreat

open Go.V

variable [BW]

set_option linter.unusedSimpArgs false

set_option linter.unusedVariables false

set_option maxHeartbeats 4000000

theorem slices_IndexFuncN (F : FuncId) (post : List SV) (H : Hp) (n : Nat) :
    FnS Tryz.prog 99 [.s .nils, .s (.fn F [] post)] H n (fun r H' _ => r = i64 (-1) ∧ H' = H) := by
  refine FnS.of_body Tryz.func99 tr99 (by simp) (fun hf => ?_)
  dsimp only [argEnv]
  unfold ir99
  (refine zG ?_)
  refine CS.iter 0 (fun i => [(8, i64 (i : Nat)), (7, i64 0), (0, .s .nils)]) (fun _ => H) (fun _ => True) (by (repeat first | exact trivial | refine And.intro rfl ?_)) (Drops.refl _ _) trivial ?_
  intro i n1 hi hn _
  obtain rfl : i = 0 := by omega
  (refine zG ?_)
  exact ⟨_, H, rfl, by exact zD, rfl, rfl⟩

theorem slices_ContainsFuncN (F : FuncId) (post : List SV) (H : Hp) (n : Nat) :
    FnS Tryz.prog 102 [.s .nils, .s (.fn F [] post)] H n (fun r H' _ => r = bl false ∧ H' = H) := by
  refine FnS.of_body Tryz.func102 tr102 (by simp) (fun hf => ?_)
  dsimp only [argEnv]
  unfold ir102
  (refine zG ?_)
  refine RS.call rfl ((slices_IndexFuncN F post _ _).mono ?_)
  rintro r H n2 hn2 ⟨rfl, rfl⟩
  (refine zG ?_)
  exact ⟨_, H, rfl, by exact zD, rfl, rfl⟩

theorem system_solve0 (p : Int) (a sb : Nat) (ks : Blk) (H : Hp) (n : Nat) (gs : H.get sb = some ks) (ss : ks.size = 5) (s2 : ks.c 2 = .int .i64 a) (s3 : ks.c 3 = .nils) :
    FnS Tryz.prog 69 [ptr sb 0] H n (fun r H' n' => r = bl true ∧ (∃ ks', H'.get sb = some ks' ∧ ks'.size = 5 ∧ ks'.c 0 = ks.c 0 ∧ ks'.c 1 = ks.c 1 ∧ ks'.c 2 = ks.c 2 ∧ ks'.c 3 = .nils ∧ ks'.c 4 = .nils) ∧ (∀ x, n' ≤ x → H'.get x = none) ∧ ∀ x, x < n → x ≠ sb → H'.get x = H.get x) := by
  refine FnS.of_body Tryz.func69 tr69 (by simp) (fun hf => ?_)
  dsimp only [argEnv]
  unfold ir69
  have hsn := getlt hf gs
  (refine zG ?_)
  refine CS.weak (e1 := [(4, ptr (n + 1) 0), (3, i64 0), (1, ptr n 0)]) (by (repeat first | exact trivial | refine And.intro rfl ?_)) (Drops.refl _ _) ?_
  refine CS.loopX (fun k e H1 n1 => e = [(4, ptr (n + 1) 0), (3, i64 0), (1, ptr n 0)] ∧ ∃ k4, H1 = (n + 1, k4) :: (n, ⟨1, fun _ => .ptr sb 0, 98⟩) :: H.set sb (put1 ks.c 4 .nils) ∧ k4.size = 1 ∧ k4.c 0 = .int .i64 0)
    (fun e H1 n1 => EnvLe [(3, i64 0), (1, ptr n 0)] e ∧ ∃ k4, H1 = (n + 1, k4) :: (n, ⟨1, fun _ => .ptr sb 0, 98⟩) :: H.set sb (put1 ks.c 4 .nils)) 0 0 ⟨rfl, _, rfl, rfl, rfl⟩ ?_ ?_
  · rintro k e H1 n1 hn1 ⟨rfl, k4, rfl, k4s, k4c⟩
    have gs' := Hp.get_set_self (put1 ks.c 4 .nils) gs
    have s2' : (put1 ks.c 4 .nils) (0 + 2) = .int .i64 a := s2
    have s3' : (put1 ks.c 4 .nils) (0 + 3) = .nils := s3
    (refine zG ?_)
    refine RS.sp (t := 16) rfl (fun h1 => ?_) (fun h1 => ?_) <;> (try simp only [tb_eq, tb_eqF, decide_eq_true_eq, decide_eq_false_iff_not, beq_iff_eq, bne_iff_ne, ne_eq, Decidable.not_not, beq_eq_false_iff_ne, bne_eq_false_iff_eq, Bool.not_eq_true', Bool.not_eq_false', Bool.not_eq_eq_eq_not, Bool.not_true, Bool.not_false] at h1)
    · (repeat first|refine zG ?_|(refine LS.nilQ ?_;try with_reducible intro nq hnq;try refine zU ?_))
      exact ⟨trivial, by (repeat first | exact trivial | refine And.intro rfl ?_), k4, rfl⟩
    · (repeat first|refine zG ?_|(refine LS.nilQ ?_;try with_reducible intro nq hnq;try refine zU ?_))
      exact ⟨trivial, by (repeat first | exact trivial | refine And.intro rfl ?_), k4, rfl⟩
  · rintro e H1 n1 hn1 ⟨hE, k4, rfl⟩
    dsimp only [Ex.then, Ex.inBlock, ↓reduceIte, Nat.reduceEqDiff]
    (try simp only [↓reduceIte])
    refine CS.weak hE (Drops.refl _ _) ?_
    have gs' := Hp.get_set_self (put1 ks.c 4 .nils) gs
    have s3' : (put1 ks.c 4 .nils) (0 + 3) = .nils := s3
    (refine zG ?_)
    refine RS.slsN1 (by exact rfl) (by exact rfl) ?_
    (refine zG ?_)
    refine RS.slsN2 (by exact rfl) (by exact rfl) ?_
    (repeat first|refine zG ?_|(refine LS.nilQ ?_;try with_reducible intro nq hnq;try refine zU ?_))
    refine RS.call rfl ((slices_ContainsFuncN _ _ _ _).mono ?_)
    rintro r H2 n3 hn3 ⟨rfl, rfl⟩
    (refine zG ?_)
    exact ⟨bl true, H.set sb (put1 (put1 ks.c 4 .nils) 3 .nils), rfl, by exact zD, rfl, ⟨_, Hp.get_set_self _ gs, ss, rfl, rfl, rfl, rfl, rfl⟩, fun x hx => by rw [Hp.get_set_other _ (by omega)]; exact hf x (by omega), fun x q1 q2 => Hp.get_set_other _ (fun q => q2 q.symm)⟩

end Go.Proofs.YtideblodkkgodaaGreat
