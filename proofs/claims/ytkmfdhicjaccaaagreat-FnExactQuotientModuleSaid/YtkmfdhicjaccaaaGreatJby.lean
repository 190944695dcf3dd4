/- Quotients of modules: the law. -/
import Derived.Test.YtkmfdhicjaccaaaGreatJbx
import Derived.Test.YtkmfdhicjaccaaaGreatJam
set_option linter.unusedSectionVars false
set_option linter.unusedVariables false
set_option linter.unusedSimpArgs false

namespace Go.V

variable [BW]

set_option linter.unusedSimpArgs false

set_option linter.unusedVariables false

theorem repU_getD (n q : Nat) : (List.replicate n IntKind.u8).getD q .u8 = .u8 := by
  rw [List.getD_eq_getElem?_getD, List.getElem?_replicate]; split <;> rfl

theorem u8_bds {x : Int} (h : (Lit.int .u8 x).wf = true) : 0 ≤ x ∧ x ≤ 255 := by
  simp only [Lit.wf, Bool.and_eq_true, decide_eq_true_eq] at h
  exact h

abbrev modKs : List IntKind := .i64 :: List.replicate 512 .u8

theorem modKs_u8 (q : Nat) : modKs.getD (1 + q) .u8 = .u8 := by
  rw [show 1 + q = q + 1 by omega]
  show (List.replicate 512 IntKind.u8).getD q .u8 = .u8
  exact repU_getD _ _

theorem modKs_by {z : Nat → Int} (w : ∀ i, (Lit.int (modKs.getD i .u8) (z i)).wf = true) (q : Nat) : 0 ≤ z (1 + q) ∧ z (1 + q) ≤ 255 := by
  have := w (1 + q); rw [modKs_u8] at this; exact u8_bds this

theorem Ext.none {F H : Hp} {b : Nat} (hE : Ext F H) (h : H.get b = none) : F.get b = none := by
  cases e : F.get b with
  | none => rfl
  | some k => rw [hE b k e] at h; cases h

theorem none_of {H : Hp} {n : Nat} (h : ∀ b k, H.get b = some k → b < n) : ∀ x, n ≤ x → H.get x = none := fun x hx => by
  cases e : H.get x with
  | none => rfl
  | some k => exact absurd (h x k e) (by omega)

section

variable {P : Program} {N mm : Nat} {e : Env} {H F : Hp} {n : Nat} {d : Option Nat} {K : Env → Hp → Prop}

theorem ST.ex {x : X} {k : Nat} {l : List AV} {v : AV} (hx : x.ev e = some (.tup l)) (hl : l[k]? = some v) (h : K (putD d v e) H) : ST P N mm ⟨d, none, .ex x k⟩ e H F n K :=
  ST.pure (by simp only [PV, hx, hl]; exact h)

end

end Go.V

namespace Go.Proofs.YtkmfdhicjaccaaaGreat

open Go.V

variable [BW]

set_option linter.unusedSimpArgs false

set_option linter.unusedVariables false

set_option maxHeartbeats 8000000

/-- laws.FnExactQuotientModule -/
def ir3 : Cd := (.seq (.reg [⟨some 3,none,.box 26 (.t 0)⟩,⟨some 4,none,.box 28 (.t 1)⟩,⟨some 6,none,.mov (.c (.bool false))⟩]) (.seq (.reg [⟨some 7,none,.mov (.c (.int .i64 1000000))⟩]) (.seq (.reg [⟨some 15,none,.mov (.t 2)⟩,⟨some 16,none,.mov (.t 7)⟩,⟨some 17,none,.call 5 [(.t 15),(.t 16)]⟩,⟨some 7,none,.mov (.t 17)⟩]) (.seq (.seq (.reg [⟨some 18,none,.mov (.t 7)⟩,⟨some 19,none,.bin .lss (.t 18) (.c (.int .i64 0))⟩]) (.cond (.t 19) (.seq (.reg [⟨some 6,none,.mov (.c (.bool true))⟩]) .ret) .skip)) (.seq (.drwn (.seg 0 (.seg 2 (.seg 4 (.fork (.seg 1 (.fork (.seg 3 (.fork (.seg 5 (.fork (.seg 6 (.seg 7 (.seg 8 (.seg 9 (.seg 10 (.seg 11 (.seg 12 .done))))))) (.seg 10 (.seg 6 (.seg 7 (.seg 8 (.seg 9 (.seg 11 (.seg 12 .done))))))))) (.seg 10 (.seg 5 (.seg 6 (.seg 7 (.seg 8 (.seg 9 (.seg 11 (.seg 12 .done)))))))))) (.seg 10 (.seg 3 (.seg 5 (.seg 6 (.seg 7 (.seg 8 (.seg 9 (.seg 11 (.seg 12 .done))))))))))) (.seg 10 (.seg 1 (.seg 3 (.seg 5 (.seg 6 (.seg 7 (.seg 8 (.seg 9 (.seg 11 (.seg 12 .done)))))))))))))) [⟨some 21,none,.ld (some 1106) (.t 3)⟩,⟨some 22,none,.call 7 [(.t 21)]⟩,⟨some 23,none,.ld (some 513) (.t 4)⟩,⟨some 24,none,.call 8 [(.t 23)]⟩,⟨some 25,none,.mov (.t 2)⟩,⟨some 26,none,.call 9 [(.t 25),(.c (.bool false))]⟩,⟨some 27,none,.call 6 [(.t 22),(.t 24),(.t 26)]⟩,⟨some 20,none,.mov (.t 27)⟩,⟨some 28,none,.ex (.t 20) 0⟩,⟨some 29,none,.ex (.t 20) 1⟩,⟨some 8,none,.new 36 [(1,(.int .i64 0)),(512,(.int .u8 0))]⟩,⟨none,none,.st 513 (.t 8) (.t 28)⟩,⟨some 9,none,.mov (.t 29)⟩]) (.seq (.reg [⟨some 30,none,.mov (.t 2)⟩,⟨some 31,none,.call 9 [(.t 30),(.c (.bool false))]⟩,⟨some 10,none,.mov (.t 31)⟩]) (.seq (.mix [⟨some 33,none,.ld (some 1106) (.t 3)⟩,⟨some 34,none,.call 7 [(.t 33)]⟩,⟨some 35,none,.ld (some 513) (.t 4)⟩,⟨some 36,none,.call 8 [(.t 35)]⟩,⟨some 37,none,.mov (.t 10)⟩,⟨some 38,none,.call 10 [(.t 34),(.t 36),(.t 37)]⟩,⟨some 32,none,.mov (.t 38)⟩,⟨some 39,none,.ex (.t 32) 0⟩,⟨some 40,none,.ex (.t 32) 1⟩] [⟨some 11,none,.new 36 [(1,(.int .i64 0)),(512,(.int .u8 0))]⟩,⟨none,none,.st 513 (.t 11) (.t 39)⟩,⟨some 12,none,.mov (.t 40)⟩]) (.seq (.seq (.reg [⟨some 41,none,.ld (some 513) (.t 11)⟩,⟨some 42,none,.ld (some 513) (.t 8)⟩,⟨some 43,none,.call 11 [(.t 41),(.t 42)]⟩,⟨some 44,none,.un .not (.t 43)⟩,⟨some 45,none,.mov (.t 44)⟩,⟨some 46,(some (45,false)),.mov (.t 12)⟩,⟨some 47,(some (45,false)),.mov (.t 9)⟩,⟨some 48,(some (45,false)),.bin .neq (.t 46) (.t 47)⟩,⟨some 49,none,.pick (.t 45) (.c (.bool true)) (.t 48)⟩]) (.cond (.t 49) (.seq (.reg [⟨some 6,none,.mov (.c (.bool false))⟩]) .ret) .skip)) (.seq (.seq (.reg [⟨some 50,none,.mov (.t 10)⟩,⟨some 51,none,.mov (.t 2)⟩,⟨some 52,none,.call 9 [(.t 51),(.c (.bool false))]⟩,⟨some 53,none,.call 12 [(.t 50),(.t 52)]⟩,⟨some 54,none,.un .not (.t 53)⟩]) (.cond (.t 54) (.seq (.reg [⟨some 6,none,.mov (.c (.bool false))⟩]) .ret) .skip)) (.seq (.drwn (.seg 0 (.seg 2 (.seg 4 (.fork (.seg 1 (.fork (.seg 3 (.fork (.seg 5 (.fork (.seg 6 (.seg 7 (.seg 8 (.seg 9 (.seg 10 (.seg 11 (.seg 12 .done))))))) (.seg 10 (.seg 6 (.seg 7 (.seg 8 (.seg 9 (.seg 11 (.seg 12 .done))))))))) (.seg 10 (.seg 5 (.seg 6 (.seg 7 (.seg 8 (.seg 9 (.seg 11 (.seg 12 .done)))))))))) (.seg 10 (.seg 3 (.seg 5 (.seg 6 (.seg 7 (.seg 8 (.seg 9 (.seg 11 (.seg 12 .done))))))))))) (.seg 10 (.seg 1 (.seg 3 (.seg 5 (.seg 6 (.seg 7 (.seg 8 (.seg 9 (.seg 11 (.seg 12 .done)))))))))))))) [⟨some 56,none,.ld (some 1106) (.t 3)⟩,⟨some 57,none,.call 7 [(.t 56)]⟩,⟨some 58,none,.ld (some 513) (.t 4)⟩,⟨some 59,none,.call 8 [(.t 58)]⟩,⟨some 60,none,.mov (.t 2)⟩,⟨some 61,none,.call 9 [(.t 60),(.c (.bool true))]⟩,⟨some 62,none,.call 10 [(.t 57),(.t 59),(.t 61)]⟩,⟨some 55,none,.mov (.t 62)⟩,⟨some 63,none,.ex (.t 55) 0⟩,⟨some 64,none,.ex (.t 55) 1⟩,⟨some 13,none,.new 36 [(1,(.int .i64 0)),(512,(.int .u8 0))]⟩,⟨none,none,.st 513 (.t 13) (.t 63)⟩,⟨some 14,none,.mov (.t 64)⟩]) (.seq (.seq (.reg [⟨some 65,none,.ld (some 513) (.t 13)⟩,⟨some 66,none,.ld (some 513) (.t 8)⟩,⟨some 67,none,.call 11 [(.t 65),(.t 66)]⟩,⟨some 68,none,.un .not (.t 67)⟩,⟨some 69,none,.mov (.t 68)⟩,⟨some 70,(some (69,false)),.mov (.t 14)⟩,⟨some 71,(some (69,false)),.mov (.t 9)⟩,⟨some 72,(some (69,false)),.bin .neq (.t 70) (.t 71)⟩,⟨some 73,none,.pick (.t 69) (.c (.bool true)) (.t 72)⟩]) (.cond (.t 73) (.seq (.reg [⟨some 6,none,.mov (.c (.bool false))⟩]) .ret) .skip)) (.seq (.reg [⟨some 6,none,.mov (.c (.bool true))⟩]) .ret))))))))))))

set_option maxRecDepth 100000 in
theorem tr3 : trFn Tryz.prog Tryz.f3 = some (74, ir3, [.tmp 6]) := by kernel_rfl

theorem law_FnExactQuotientModule (m0 : Nat) (z : Nat → Int) (w : ∀ i, (Lit.int (hopfKs.getD i .u8) (z i)).wf = true) (z1 : Nat → Int) (w1 : ∀ i, (Lit.int (modKs.getD i .u8) (z1 i)).wf = true) (sv : SV) (len : Nat) (f : Nat → Int) (hR : RA m0 8 sv len f) (hfb : ∀ i, i < 8 * len → 0 ≤ f i ∧ f i ≤ 255) (hlen : len ≤ 9223372036854775807) (n : Nat) (hmn : m0 ≤ n) :
    FnS Tryz.prog 3 [.arr 1106 fun i => .int (hopfKs.getD i .u8) (z i), .arr 513 fun i => .int (modKs.getD i .u8) (z1 i), .s sv] [] n (fun r H' _ => r = bl true ∧ H' = []) := by
  have hK := hOf_at z
  have hB := hOf_by w
  generalize hOf z = h at hK hB
  generalize (fun i => SV.int (hopfKs.getD i .u8) (z i)) = Kh at hK ⊢
  have kd : (fun i => SV.int (modKs.getD i .u8) (z1 i)) 0 = .int .i64 (z1 0) := rfl
  have cm : ∀ q, q < 512 → (fun i => SV.int (modKs.getD i .u8) (z1 i)) (1 + q) = .int .u8 ((fun q => z1 (1 + q)) q) := fun q _ => by
    show SV.int (modKs.getD (1 + q) .u8) _ = _; rw [modKs_u8]
  have ht : isBy 512 (fun q => z1 (1 + q)) := fun q _ => modKs_by w1 q
  generalize (fun q => z1 (1 + q)) = t at cm ht
  generalize z1 0 = d at kd
  generalize (fun i => SV.int (modKs.getD i .u8) (z1 i)) = Km at kd cm ⊢
  obtain ⟨L, hL⟩ : ∃ L : Nat → Nat → Int, L = fun i x => f (8 * i + x) := ⟨_, rfl⟩
  have hLb : ∀ i, i < len → isBy 8 (L i) := fun i hi x hx => by rw [hL]; exact hfb _ (by omega)
  obtain ⟨C, hC⟩ : ∃ C, C = k5 (qok h d t L len) (qgd h d t L len) := ⟨_, rfl⟩
  obtain ⟨d', t', hV⟩ := qmV_is h d t L len
  refine FnS.of_body Tryz.func3 tr3 (by simp) (fun hf => ?_)
  dsimp only [argEnv]
  unfold ir3
  (repeat first|refine zG ?_|(refine LS.nilO ?_;intro nq hnq hltq;try refine zU ?_)|(refine MS.new ?_;intro bq hbq hbqf;try refine zU ?_)|(refine MS.nil ?_;intro nq hnq hltq;have hlq:=hltq _ _ (Hp.get_eq _ _ _);clear hltq;try refine zU ?_)|(refine LS.nilQ ?_;try with_reducible intro nq hnq;try refine zU ?_))
  refine RS.call rfl ((laws_szVectorS m0 sv len f _ _ hlen hR).mono ?_)
  rintro r H' n2 hn2 ⟨rfl, rfl⟩
  by_cases hl : len ≤ 1000000
  · rw [if_pos hl]
    have spec_QuotientModule' : ∀ (b : Nat) (lv : SV) (Hc : Hp) (n' : Nat), VL Hc lv len L b → FnS Tryz.prog 6 [.arr 1106 Kh, .arr 513 Km, .s lv] Hc n' (fun r H' _ => r = .tup [.arr 513 (modC d' t'), i64 C] ∧ H' = Hc) := fun b lv Hc n' V => by
      rw [← hV, hC]; exact spec_QuotientModule h d t L len b lv Kh Km Hc n' hK hB kd cm ht hl V hLb
    have impl_QuotientModule' : ∀ (b : Nat) (lv : SV) (Hc : Hp) (n' : Nat), VN Hc lv len L b → b < n' → FnS Tryz.prog 10 [.arr 1106 Kh, .arr 513 Km, .s lv] Hc n' (fun r H' _ => r = .tup [.arr 513 (modC d' t'), i64 C] ∧ H' = Hc) := fun b lv Hc n' V hb => by
      rw [← hV, hC]; exact impl_QuotientModule h d t L len b lv Kh Km Hc n' hK hB kd cm ht hl V hLb hb
    have tvL : ∀ (HV : Hp) (n' : Nat), m0 ≤ n' → (∀ x, x < m0 → HV.get x = none) → (∀ x, n' ≤ x → HV.get x = none) → FnS Tryz.prog 9 [.s sv, bl false] HV n' (fun r H' _ => ∃ lv bl, r = .s lv ∧ VL H' lv len L bl ∧ (bl = 0 ∨ ∃ k, H'.get bl = some k) ∧ Ext HV H' ∧ ∀ x, x < n' → H'.get x = HV.get x) := fun HV n' h1 h2 h3 => (laws_toVectorS m0 false sv len f HV n' hl h1 h2 hR).mono (by
      rintro r H' n'' hn'' (⟨q, -⟩ | ⟨-, b', hb', hbn, rfl, rfl⟩)
      · cases q
      · exact ⟨_, b', rfl, by rw [hL]; exact VL.tv (Hp.get_eq _ _ _), .inr ⟨_, Hp.get_eq _ _ _⟩, (Ext.refl _).push _ (h3 b' hb'), fun x hx => Hp.get_ne _ _ (by omega)⟩)
    have tvN : ∀ (HV : Hp) (n' : Nat), m0 ≤ n' → (∀ x, x < m0 → HV.get x = none) → (∀ x, n' ≤ x → HV.get x = none) → FnS Tryz.prog 9 [.s sv, bl true] HV n' (fun r H' _ => ∃ lv bl, r = .s lv ∧ VN H' lv len L bl ∧ (bl = 0 ∨ ∃ k, H'.get bl = some k) ∧ Ext HV H' ∧ ∀ x, x < n' → H'.get x = HV.get x) := fun HV n' h1 h2 h3 => (laws_toVectorS m0 true sv len f HV n' hl h1 h2 hR).mono (by
      rintro r H' n'' hn'' (⟨-, q, rfl, rfl⟩ | ⟨-, b', hb', hbn, rfl, rfl⟩)
      · exact ⟨_, 0, rfl, .inl ⟨rfl, q⟩, .inl rfl, Ext.refl _, fun x hx => rfl⟩
      · exact ⟨_, b', rfl, .inr (by rw [hL]; exact VL.tv (Hp.get_eq _ _ _)), .inr ⟨_, Hp.get_eq _ _ _⟩, (Ext.refl _).push _ (h3 b' hb'), fun x hx => Hp.get_ne _ _ (by omega)⟩)
    (repeat first|refine zG ?_|(refine LS.nilO ?_;intro nq hnq hltq;try refine zU ?_)|(refine MS.new ?_;intro bq hbq hbqf;try refine zU ?_)|(refine MS.nil ?_;intro nq hnq hltq;have hlq:=hltq _ _ (Hp.get_eq _ _ _);clear hltq;try refine zU ?_)|(refine LS.nilQ ?_;try with_reducible intro nq hnq;try refine zU ?_))
    refine zI ?_ ?_<;>intro h1
    · exfalso; omega
    (repeat first|refine zG ?_|(refine LS.nilO ?_;intro nq hnq hltq;try refine zU ?_)|(refine MS.new ?_;intro bq hbq hbqf;try refine zU ?_)|(refine MS.nil ?_;intro nq hnq hltq;have hlq:=hltq _ _ (Hp.get_eq _ _ _);clear hltq;try refine zU ?_)|(refine LS.nilQ ?_;try with_reducible intro nq hnq;try refine zU ?_))
    obtain ⟨H0, hH0⟩ : ∃ H0 : Hp, H0 = [(n + 1, ⟨513, Km, 28⟩), (n, ⟨1106, Kh, 26⟩)] := ⟨_, rfl⟩
    refine CS.weak (e1 := [(3, ptr n 0), (4, ptr (n + 1) 0), (2, .s sv)]) (H1 := H0) (by (repeat first | exact trivial | refine And.intro rfl ?_)) (by rw [hH0]; exact Drops.refl _ _) ?_
    have g0 : H0.get n = some ⟨1106, Kh, 26⟩ := by rw [hH0]; exact zH
    have g1 : H0.get (n + 1) = some ⟨513, Km, 28⟩ := by rw [hH0]; exact Hp.get_eq _ _ _
    have H0n : ∀ x, x < n → H0.get x = none := fun x hx => by rw [hH0, Hp.get_ne _ _ (by omega), Hp.get_ne _ _ (by omega)]; rfl
    refine CS.ordN H0 (Ext.refl _) ?_
    refine FT.mono (K := fun e' H' => ∃ b8 K8, EnvLe [(3, ptr n 0), (4, ptr (n + 1) 0), (2, .s sv), (8, ptr b8 0), (9, i64 C)] e' ∧ H'.get b8 = some K8 ∧ K8.size = 513 ∧ (∀ q, q < 513 → K8.c q = modC d' t' q) ∧ n2 ≤ b8 ∧ ∀ x, x < n2 → H'.get x = H0.get x) ?_ ?_
    · refine FT.seg rfl (ST.ldn (c := Kh) (by exact rfl) g0 (by (try dsimp only); omega) (by funext x; rw [Nat.zero_add]) ?_)
      refine FT.seg rfl (ST.ldn (c := Km) (by exact rfl) g1 (by (try dsimp only); omega) (by funext x; rw [Nat.zero_add]) ?_)
      refine FT.seg rfl (ST.mov (by exact rfl) ?_)
      refine FT.fork ?_ ?_
      · refine FT.seg rfl (ST.callq (.arr 1106 Kh) (Ext.refl _) rfl (fun n' h1 h2 => laws_toHopf h Kh _ _ hK) ?_)
        refine FT.fork ?_ ?_
        · refine FT.seg rfl (ST.callq (.arr 513 Km) (Ext.refl _) rfl (fun n' h1 h2 => laws_toModule d t Km _ _ kd cm) ?_)
          refine FT.fork ?_ ?_
          · refine FT.seg rfl (ST.call (R := fun r H' => ∃ lv bl, r = .s lv ∧ VL H' lv len L bl ∧ (bl = 0 ∨ ∃ k, H'.get bl = some k) ∧ Ext H0 H' ∧ ∀ x, x < n2 → H'.get x = H0.get x) rfl (fun n' h1 h2 => (tvL H0 n' (by omega) (fun x hx => by rw [(fun x (_ : x < n2) => (rfl : H0.get x = H0.get x)) x (by omega)]; exact H0n x (by omega)) h2).mono (fun r H' _ _ q => by
              obtain ⟨lv, bl, q1, q2, q3, q4, q5⟩ := q
              exact ⟨⟨lv, bl, q1, q2, q3, q4, fun x hx => q5 x (by omega)⟩, (Ext.refl _).trans q4⟩)) ?_)
            rintro r HL1 ⟨lv, bl, rfl, V, hbl, hX1, lo1⟩ hE1
            have low1 : ∀ x, x < n2 → HL1.get x = H0.get x := fun x hx => by rw [lo1 x hx, (fun x (_ : x < n2) => (rfl : H0.get x = H0.get x)) x hx]
            refine FT.fork ?_ ?_
            · refine FT.seg rfl (ST.callq (.tup [.arr 513 (modC d' t'), i64 C]) hE1 rfl (fun n' h1 h2 => spec_QuotientModule' bl lv _ n' V) ?_)
              refine FT.seg rfl (ST.mov (by exact rfl) ?_)
              refine FT.seg rfl (ST.ex (by exact rfl) (by exact rfl) ?_)
              refine FT.seg rfl (ST.ex (by exact rfl) (by exact rfl) ?_)
              refine FT.seg rfl (ST.new hE1 ?_)
              intro b8 hb8 hf8
              have hF8 : H0.get b8 = none := hE1.none (hf8 b8 (Nat.le_refl _))
              obtain ⟨HN2, hH2⟩ : ∃ HN : Hp, HN = (b8, ⟨Zs.size [(1, SV.int .i64 0), (512, SV.int .u8 0)], Zs.c [(1, SV.int .i64 0), (512, SV.int .u8 0)], 36⟩) :: HL1 := ⟨_, rfl⟩
              rw [← hH2]
              have g82 : HN2.get b8 = some ⟨Zs.size [(1, SV.int .i64 0), (512, SV.int .u8 0)], Zs.c [(1, SV.int .i64 0), (512, SV.int .u8 0)], 36⟩ := by rw [hH2]; exact Hp.get_eq _ _ _
              have hE2 : Ext H0 HN2 := by rw [hH2]; exact hE1.push _ (hf8 b8 (Nat.le_refl _))
              have low2 : ∀ x, x < n2 → HN2.get x = H0.get x := fun x hx => by rw [hH2, Hp.get_ne _ _ (by omega), low1 x hx]
              refine FT.seg rfl (ST.sta (c := modC d' t') (by exact rfl) (by exact rfl) g82 (by simp [Zs.size]) hF8 hE2 ?_)
              refine FT.seg rfl (ST.mov (by exact rfl) ?_)
              exact FT.done ⟨b8, _, by (repeat first | exact trivial | refine And.intro rfl ?_), Hp.get_set_self _ g82, rfl, fun q hq => by (try dsimp only); unfold splice; rw [if_pos (by omega), Nat.sub_zero], by omega, fun x hx => by rw [Hp.get_set_other _ (by omega)]; exact low2 x hx⟩
            · refine FT.seg rfl (ST.new hE1 ?_)
              intro b8 hb8 hf8
              have hF8 : H0.get b8 = none := hE1.none (hf8 b8 (Nat.le_refl _))
              obtain ⟨HN2, hH2⟩ : ∃ HN : Hp, HN = (b8, ⟨Zs.size [(1, SV.int .i64 0), (512, SV.int .u8 0)], Zs.c [(1, SV.int .i64 0), (512, SV.int .u8 0)], 36⟩) :: HL1 := ⟨_, rfl⟩
              rw [← hH2]
              have g82 : HN2.get b8 = some ⟨Zs.size [(1, SV.int .i64 0), (512, SV.int .u8 0)], Zs.c [(1, SV.int .i64 0), (512, SV.int .u8 0)], 36⟩ := by rw [hH2]; exact Hp.get_eq _ _ _
              have hE2 : Ext H0 HN2 := by rw [hH2]; exact hE1.push _ (hf8 b8 (Nat.le_refl _))
              have low2 : ∀ x, x < n2 → HN2.get x = H0.get x := fun x hx => by rw [hH2, Hp.get_ne _ _ (by omega), low1 x hx]
              have hbl8 : bl = 0 ∨ b8 ≠ bl := by
                rcases hbl with q | ⟨kk, q⟩
                · exact .inl q
                · right
                  rintro rfl
                  rw [hf8 _ (Nat.le_refl _)] at q; cases q
              have hb80 : b8 ≠ 0 := by omega
              have V2 := V.keep (H' := HN2) (by rw [hH2, Hp.get_ne _ _ (by rcases hbl8 with q | q <;> omega)])
              have hbl2 : bl = 0 ∨ ∃ k, HN2.get bl = some k := by
                rcases hbl with q | ⟨kk, q⟩
                · exact .inl q
                · exact .inr ⟨kk, by rw [hH2, Hp.get_ne _ _ (by rcases hbl8 with q | q <;> omega)]; exact q⟩
              clear V hbl
              have V := V2
              have hbl := hbl2
              clear V2 hbl2
              refine FT.seg rfl (ST.callq (.tup [.arr 513 (modC d' t'), i64 C]) hE2 rfl (fun n' h1 h2 => spec_QuotientModule' bl lv _ n' V) ?_)
              refine FT.seg rfl (ST.mov (by exact rfl) ?_)
              refine FT.seg rfl (ST.ex (by exact rfl) (by exact rfl) ?_)
              refine FT.seg rfl (ST.ex (by exact rfl) (by exact rfl) ?_)
              refine FT.seg rfl (ST.sta (c := modC d' t') (by exact rfl) (by exact rfl) g82 (by simp [Zs.size]) hF8 hE2 ?_)
              refine FT.seg rfl (ST.mov (by exact rfl) ?_)
              exact FT.done ⟨b8, _, by (repeat first | exact trivial | refine And.intro rfl ?_), Hp.get_set_self _ g82, rfl, fun q hq => by (try dsimp only); unfold splice; rw [if_pos (by omega), Nat.sub_zero], by omega, fun x hx => by rw [Hp.get_set_other _ (by omega)]; exact low2 x hx⟩
          · refine FT.seg rfl (ST.new (Ext.refl _) ?_)
            intro b8 hb8 hf8
            have hF8 : H0.get b8 = none := (Ext.refl _).none (hf8 b8 (Nat.le_refl _))
            obtain ⟨HN1, hH1⟩ : ∃ HN : Hp, HN = (b8, ⟨Zs.size [(1, SV.int .i64 0), (512, SV.int .u8 0)], Zs.c [(1, SV.int .i64 0), (512, SV.int .u8 0)], 36⟩) :: H0 := ⟨_, rfl⟩
            rw [← hH1]
            have g81 : HN1.get b8 = some ⟨Zs.size [(1, SV.int .i64 0), (512, SV.int .u8 0)], Zs.c [(1, SV.int .i64 0), (512, SV.int .u8 0)], 36⟩ := by rw [hH1]; exact Hp.get_eq _ _ _
            have hE1 : Ext H0 HN1 := by rw [hH1]; exact (Ext.refl _).push _ (hf8 b8 (Nat.le_refl _))
            have low1 : ∀ x, x < n2 → HN1.get x = H0.get x := fun x hx => by rw [hH1, Hp.get_ne _ _ (by omega), (fun x (_ : x < n2) => (rfl : H0.get x = H0.get x)) x hx]
            refine FT.seg rfl (ST.call (R := fun r H' => ∃ lv bl, r = .s lv ∧ VL H' lv len L bl ∧ (bl = 0 ∨ ∃ k, H'.get bl = some k) ∧ Ext HN1 H' ∧ ∀ x, x < n2 → H'.get x = HN1.get x) rfl (fun n' h1 h2 => (tvL HN1 n' (by omega) (fun x hx => by rw [low1 x (by omega)]; exact H0n x (by omega)) h2).mono (fun r H' _ _ q => by
              obtain ⟨lv, bl, q1, q2, q3, q4, q5⟩ := q
              exact ⟨⟨lv, bl, q1, q2, q3, q4, fun x hx => q5 x (by omega)⟩, hE1.trans q4⟩)) ?_)
            rintro r HL2 ⟨lv, bl, rfl, V, hbl, hX2, lo2⟩ hE2
            have low2 : ∀ x, x < n2 → HL2.get x = H0.get x := fun x hx => by rw [lo2 x hx, low1 x hx]
            have g82 := hX2 _ _ g81
            refine FT.seg rfl (ST.callq (.tup [.arr 513 (modC d' t'), i64 C]) hE2 rfl (fun n' h1 h2 => spec_QuotientModule' bl lv _ n' V) ?_)
            refine FT.seg rfl (ST.mov (by exact rfl) ?_)
            refine FT.seg rfl (ST.ex (by exact rfl) (by exact rfl) ?_)
            refine FT.seg rfl (ST.ex (by exact rfl) (by exact rfl) ?_)
            refine FT.seg rfl (ST.sta (c := modC d' t') (by exact rfl) (by exact rfl) g82 (by simp [Zs.size]) hF8 hE2 ?_)
            refine FT.seg rfl (ST.mov (by exact rfl) ?_)
            exact FT.done ⟨b8, _, by (repeat first | exact trivial | refine And.intro rfl ?_), Hp.get_set_self _ g82, rfl, fun q hq => by (try dsimp only); unfold splice; rw [if_pos (by omega), Nat.sub_zero], by omega, fun x hx => by rw [Hp.get_set_other _ (by omega)]; exact low2 x hx⟩
        · refine FT.seg rfl (ST.new (Ext.refl _) ?_)
          intro b8 hb8 hf8
          have hF8 : H0.get b8 = none := (Ext.refl _).none (hf8 b8 (Nat.le_refl _))
          obtain ⟨HN1, hH1⟩ : ∃ HN : Hp, HN = (b8, ⟨Zs.size [(1, SV.int .i64 0), (512, SV.int .u8 0)], Zs.c [(1, SV.int .i64 0), (512, SV.int .u8 0)], 36⟩) :: H0 := ⟨_, rfl⟩
          rw [← hH1]
          have g81 : HN1.get b8 = some ⟨Zs.size [(1, SV.int .i64 0), (512, SV.int .u8 0)], Zs.c [(1, SV.int .i64 0), (512, SV.int .u8 0)], 36⟩ := by rw [hH1]; exact Hp.get_eq _ _ _
          have hE1 : Ext H0 HN1 := by rw [hH1]; exact (Ext.refl _).push _ (hf8 b8 (Nat.le_refl _))
          have low1 : ∀ x, x < n2 → HN1.get x = H0.get x := fun x hx => by rw [hH1, Hp.get_ne _ _ (by omega), (fun x (_ : x < n2) => (rfl : H0.get x = H0.get x)) x hx]
          refine FT.seg rfl (ST.callq (.arr 513 Km) hE1 rfl (fun n' h1 h2 => laws_toModule d t Km _ _ kd cm) ?_)
          refine FT.seg rfl (ST.call (R := fun r H' => ∃ lv bl, r = .s lv ∧ VL H' lv len L bl ∧ (bl = 0 ∨ ∃ k, H'.get bl = some k) ∧ Ext HN1 H' ∧ ∀ x, x < n2 → H'.get x = HN1.get x) rfl (fun n' h1 h2 => (tvL HN1 n' (by omega) (fun x hx => by rw [low1 x (by omega)]; exact H0n x (by omega)) h2).mono (fun r H' _ _ q => by
            obtain ⟨lv, bl, q1, q2, q3, q4, q5⟩ := q
            exact ⟨⟨lv, bl, q1, q2, q3, q4, fun x hx => q5 x (by omega)⟩, hE1.trans q4⟩)) ?_)
          rintro r HL2 ⟨lv, bl, rfl, V, hbl, hX2, lo2⟩ hE2
          have low2 : ∀ x, x < n2 → HL2.get x = H0.get x := fun x hx => by rw [lo2 x hx, low1 x hx]
          have g82 := hX2 _ _ g81
          refine FT.seg rfl (ST.callq (.tup [.arr 513 (modC d' t'), i64 C]) hE2 rfl (fun n' h1 h2 => spec_QuotientModule' bl lv _ n' V) ?_)
          refine FT.seg rfl (ST.mov (by exact rfl) ?_)
          refine FT.seg rfl (ST.ex (by exact rfl) (by exact rfl) ?_)
          refine FT.seg rfl (ST.ex (by exact rfl) (by exact rfl) ?_)
          refine FT.seg rfl (ST.sta (c := modC d' t') (by exact rfl) (by exact rfl) g82 (by simp [Zs.size]) hF8 hE2 ?_)
          refine FT.seg rfl (ST.mov (by exact rfl) ?_)
          exact FT.done ⟨b8, _, by (repeat first | exact trivial | refine And.intro rfl ?_), Hp.get_set_self _ g82, rfl, fun q hq => by (try dsimp only); unfold splice; rw [if_pos (by omega), Nat.sub_zero], by omega, fun x hx => by rw [Hp.get_set_other _ (by omega)]; exact low2 x hx⟩
      · refine FT.seg rfl (ST.new (Ext.refl _) ?_)
        intro b8 hb8 hf8
        have hF8 : H0.get b8 = none := (Ext.refl _).none (hf8 b8 (Nat.le_refl _))
        obtain ⟨HN1, hH1⟩ : ∃ HN : Hp, HN = (b8, ⟨Zs.size [(1, SV.int .i64 0), (512, SV.int .u8 0)], Zs.c [(1, SV.int .i64 0), (512, SV.int .u8 0)], 36⟩) :: H0 := ⟨_, rfl⟩
        rw [← hH1]
        have g81 : HN1.get b8 = some ⟨Zs.size [(1, SV.int .i64 0), (512, SV.int .u8 0)], Zs.c [(1, SV.int .i64 0), (512, SV.int .u8 0)], 36⟩ := by rw [hH1]; exact Hp.get_eq _ _ _
        have hE1 : Ext H0 HN1 := by rw [hH1]; exact (Ext.refl _).push _ (hf8 b8 (Nat.le_refl _))
        have low1 : ∀ x, x < n2 → HN1.get x = H0.get x := fun x hx => by rw [hH1, Hp.get_ne _ _ (by omega), (fun x (_ : x < n2) => (rfl : H0.get x = H0.get x)) x hx]
        refine FT.seg rfl (ST.callq (.arr 1106 Kh) hE1 rfl (fun n' h1 h2 => laws_toHopf h Kh _ _ hK) ?_)
        refine FT.seg rfl (ST.callq (.arr 513 Km) hE1 rfl (fun n' h1 h2 => laws_toModule d t Km _ _ kd cm) ?_)
        refine FT.seg rfl (ST.call (R := fun r H' => ∃ lv bl, r = .s lv ∧ VL H' lv len L bl ∧ (bl = 0 ∨ ∃ k, H'.get bl = some k) ∧ Ext HN1 H' ∧ ∀ x, x < n2 → H'.get x = HN1.get x) rfl (fun n' h1 h2 => (tvL HN1 n' (by omega) (fun x hx => by rw [low1 x (by omega)]; exact H0n x (by omega)) h2).mono (fun r H' _ _ q => by
          obtain ⟨lv, bl, q1, q2, q3, q4, q5⟩ := q
          exact ⟨⟨lv, bl, q1, q2, q3, q4, fun x hx => q5 x (by omega)⟩, hE1.trans q4⟩)) ?_)
        rintro r HL2 ⟨lv, bl, rfl, V, hbl, hX2, lo2⟩ hE2
        have low2 : ∀ x, x < n2 → HL2.get x = H0.get x := fun x hx => by rw [lo2 x hx, low1 x hx]
        have g82 := hX2 _ _ g81
        refine FT.seg rfl (ST.callq (.tup [.arr 513 (modC d' t'), i64 C]) hE2 rfl (fun n' h1 h2 => spec_QuotientModule' bl lv _ n' V) ?_)
        refine FT.seg rfl (ST.mov (by exact rfl) ?_)
        refine FT.seg rfl (ST.ex (by exact rfl) (by exact rfl) ?_)
        refine FT.seg rfl (ST.ex (by exact rfl) (by exact rfl) ?_)
        refine FT.seg rfl (ST.sta (c := modC d' t') (by exact rfl) (by exact rfl) g82 (by simp [Zs.size]) hF8 hE2 ?_)
        refine FT.seg rfl (ST.mov (by exact rfl) ?_)
        exact FT.done ⟨b8, _, by (repeat first | exact trivial | refine And.intro rfl ?_), Hp.get_set_self _ g82, rfl, fun q hq => by (try dsimp only); unfold splice; rw [if_pos (by omega), Nat.sub_zero], by omega, fun x hx => by rw [Hp.get_set_other _ (by omega)]; exact low2 x hx⟩
    rintro e' H1 ⟨b8, K8, hle, g8, s8, c8, hb8, lo1⟩ n5 hn5 hlt5
    dsimp only [Ex.then, Ex.inBlock]
    refine CS.weak hle (Drops.refl _ _) ?_
    have hf5 := none_of hlt5
    have q0 : H1.get n = some ⟨1106, Kh, 26⟩ := by rw [lo1 n (by omega)]; exact g0
    have q1 : H1.get (n + 1) = some ⟨513, Km, 28⟩ := by rw [lo1 (n + 1) (by omega)]; exact g1
    have b8n := hlt5 _ _ g8
    have lo1' : ∀ x, x < n → H1.get x = none := fun x hx => by rw [lo1 x (by omega)]; exact H0n x hx
    clear hle hlt5 lo1 g0 g1 hH0 H0n
    (repeat first|refine zG ?_|(refine LS.nilO ?_;intro nq hnq hltq;try refine zU ?_)|(refine MS.new ?_;intro bq hbq hbqf;try refine zU ?_)|(refine MS.nil ?_;intro nq hnq hltq;have hlq:=hltq _ _ (Hp.get_eq _ _ _);clear hltq;try refine zU ?_)|(refine LS.nilQ ?_;try with_reducible intro nq hnq;try refine zU ?_))
    refine RS.call rfl ((laws_toVectorS m0 false sv len f _ _ hl (by omega) (fun x hx => lo1' x (by omega)) hR).mono ?_)
    rintro r H2 n6 hn6 (⟨q, -⟩ | ⟨-, bx, hbx, hbxn, rfl, hH2⟩)
    · cases q
    have gx : H2.get bx = some ⟨(len + rmb len) * 8, tvC f len, 31⟩ := by rw [hH2]; exact Hp.get_eq _ _ _
    have r0 : H2.get n = some ⟨1106, Kh, 26⟩ := by rw [hH2, Hp.get_ne _ _ (by omega)]; exact q0
    have r1 : H2.get (n + 1) = some ⟨513, Km, 28⟩ := by rw [hH2, Hp.get_ne _ _ (by omega)]; exact q1
    have r8 : H2.get b8 = some K8 := by rw [hH2, Hp.get_ne _ _ (by omega)]; exact g8
    have hf2 : ∀ x, n6 ≤ x → H2.get x = none := fun x hx => by rw [hH2, Hp.get_ne _ _ (by omega)]; exact hf5 x (by omega)
    have lo2 : ∀ x, x < n → H2.get x = none := fun x hx => by rw [hH2, Hp.get_ne _ _ (by omega)]; exact lo1' x hx
    clear hH2 q0 q1 g8 hf5 lo1'
    (repeat first|refine zG ?_|(refine LS.nilO ?_;intro nq hnq hltq;try refine zU ?_)|(refine MS.new ?_;intro bq hbq hbqf;try refine zU ?_)|(refine MS.nil ?_;intro nq hnq hltq;have hlq:=hltq _ _ (Hp.get_eq _ _ _);clear hltq;try refine zU ?_)|(refine LS.nilQ ?_;try with_reducible intro nq hnq;try refine zU ?_))
    refine LS.callQ (.arr 1106 Kh) rfl (fun n' hn' => laws_toHopf h Kh _ _ hK) ?_
    (repeat first|refine zG ?_|(refine LS.nilO ?_;intro nq hnq hltq;try refine zU ?_)|(refine MS.new ?_;intro bq hbq hbqf;try refine zU ?_)|(refine MS.nil ?_;intro nq hnq hltq;have hlq:=hltq _ _ (Hp.get_eq _ _ _);clear hltq;try refine zU ?_)|(refine LS.nilQ ?_;try with_reducible intro nq hnq;try refine zU ?_))
    refine LS.callQ (.arr 513 Km) rfl (fun n' hn' => laws_toModule d t Km _ _ kd cm) ?_
    (repeat first|refine zG ?_|(refine LS.nilO ?_;intro nq hnq hltq;try refine zU ?_)|(refine MS.new ?_;intro bq hbq hbqf;try refine zU ?_)|(refine MS.nil ?_;intro nq hnq hltq;have hlq:=hltq _ _ (Hp.get_eq _ _ _);clear hltq;try refine zU ?_)|(refine LS.nilQ ?_;try with_reducible intro nq hnq;try refine zU ?_))
    refine LS.callQ (.tup [.arr 513 (modC d' t'), i64 C]) rfl (fun n' hn' => impl_QuotientModule' bx _ _ n' (.inr (by rw [hL]; exact VL.tv gx)) (by omega)) ?_
    (repeat first|refine zG ?_|(refine LS.nilO ?_;intro nq hnq hltq;try refine zU ?_)|(refine MS.new ?_;intro bq hbq hbqf;try refine zU ?_)|(refine MS.nil ?_;intro nq hnq hltq;have hlq:=hltq _ _ (Hp.get_eq _ _ _);clear hltq;try refine zU ?_)|(refine LS.nilQ ?_;try with_reducible intro nq hnq;try refine zU ?_))
    refine RS.call rfl ((FnS.args (concs_cons (conc_arr (fun q hq => ?_)) (concs_cons (conc_arr (fun q hq => ?_)) rfl)) (laws_eqModule d' t' _ _)).mono ?_)
    · first | rfl | (simp only [Nat.zero_add]; done) | (simp only [Nat.zero_add]; rfl)
    · first | exact c8 q hq | (simp only [Nat.zero_add]; exact c8 q hq)
    rintro r H' n7 hn7 ⟨rfl, rfl⟩
    (repeat first|refine zG ?_|(refine LS.nilO ?_;intro nq hnq hltq;try refine zU ?_)|(refine MS.new ?_;intro bq hbq hbqf;try refine zU ?_)|(refine MS.nil ?_;intro nq hnq hltq;have hlq:=hltq _ _ (Hp.get_eq _ _ _);clear hltq;try refine zU ?_)|(refine LS.nilQ ?_;try with_reducible intro nq hnq;try refine zU ?_))
    simp only [bne_self_eq_false]
    (repeat first|refine zG ?_|(refine LS.nilO ?_;intro nq hnq hltq;try refine zU ?_)|(refine MS.new ?_;intro bq hbq hbqf;try refine zU ?_)|(refine MS.nil ?_;intro nq hnq hltq;have hlq:=hltq _ _ (Hp.get_eq _ _ _);clear hltq;try refine zU ?_)|(refine LS.nilQ ?_;try with_reducible intro nq hnq;try refine zU ?_))
    refine RS.call rfl ((laws_toVectorS m0 false sv len f _ _ hl (by omega) (fun x hx => by rw [Hp.get_ne _ _ (by omega)]; exact lo2 x (by omega)) hR).mono ?_)
    rintro r H4 n8 hn8 (⟨q, -⟩ | ⟨-, bz, hbz, hbzn, rfl, hH4⟩)
    · cases q
    have gz : H4.get bz = some ⟨(len + rmb len) * 8, tvC f len, 31⟩ := by rw [hH4]; exact Hp.get_eq _ _ _
    have gx4 : H4.get bx = some ⟨(len + rmb len) * 8, tvC f len, 31⟩ := by rw [hH4, Hp.get_ne _ _ (by omega), Hp.get_ne _ _ (by omega)]; exact gx
    have g0 : H4.get n = some ⟨1106, Kh, 26⟩ := by rw [hH4, Hp.get_ne _ _ (by omega), Hp.get_ne _ _ (by omega)]; exact r0
    have g1 : H4.get (n + 1) = some ⟨513, Km, 28⟩ := by rw [hH4, Hp.get_ne _ _ (by omega), Hp.get_ne _ _ (by omega)]; exact r1
    have w8 : H4.get b8 = some K8 := by rw [hH4, Hp.get_ne _ _ (by omega), Hp.get_ne _ _ (by omega)]; exact r8
    have H5n : ∀ x, x < n → H4.get x = none := fun x hx => by rw [hH4, Hp.get_ne _ _ (by omega), Hp.get_ne _ _ (by omega)]; exact lo2 x hx
    clear hH4 r0 r1 r8 hf2 lo2 gx
    (repeat first|refine zG ?_|(refine LS.nilO ?_;intro nq hnq hltq;try refine zU ?_)|(refine MS.new ?_;intro bq hbq hbqf;try refine zU ?_)|(refine MS.nil ?_;intro nq hnq hltq;have hlq:=hltq _ _ (Hp.get_eq _ _ _);clear hltq;try refine zU ?_)|(refine LS.nilQ ?_;try with_reducible intro nq hnq;try refine zU ?_))
    refine RS.call rfl ((laws_intactVectorS f len bx bz _ _ hl gx4 gz).mono ?_)
    rintro r H5 n9 hn9 ⟨rfl, rfl⟩
    (repeat first|refine zG ?_|(refine LS.nilO ?_;intro nq hnq hltq;try refine zU ?_)|(refine MS.new ?_;intro bq hbq hbqf;try refine zU ?_)|(refine MS.nil ?_;intro nq hnq hltq;have hlq:=hltq _ _ (Hp.get_eq _ _ _);clear hltq;try refine zU ?_)|(refine LS.nilQ ?_;try with_reducible intro nq hnq;try refine zU ?_))
    refine CS.weak (e1 := [(3, ptr n 0), (4, ptr (n + 1) 0), (2, .s sv), (8, ptr b8 0), (9, i64 C)]) (by (repeat first | exact trivial | refine And.intro rfl ?_)) (Drops.refl _ _) ?_
    refine CS.ordN H5 (Ext.refl _) ?_
    refine FT.mono (K := fun e' H' => ∃ b13 K13, EnvLe [(3, ptr n 0), (4, ptr (n + 1) 0), (8, ptr b8 0), (9, i64 C), (13, ptr b13 0), (14, i64 C)] e' ∧ H'.get b13 = some K13 ∧ K13.size = 513 ∧ (∀ q, q < 513 → K13.c q = modC d' t' q) ∧ n9 ≤ b13 ∧ ∀ x, x < n9 → H'.get x = H5.get x) ?_ ?_
    · refine FT.seg rfl (ST.ldn (c := Kh) (by exact rfl) g0 (by (try dsimp only); omega) (by funext x; rw [Nat.zero_add]) ?_)
      refine FT.seg rfl (ST.ldn (c := Km) (by exact rfl) g1 (by (try dsimp only); omega) (by funext x; rw [Nat.zero_add]) ?_)
      refine FT.seg rfl (ST.mov (by exact rfl) ?_)
      refine FT.fork ?_ ?_
      · refine FT.seg rfl (ST.callq (.arr 1106 Kh) (Ext.refl _) rfl (fun n' h1 h2 => laws_toHopf h Kh _ _ hK) ?_)
        refine FT.fork ?_ ?_
        · refine FT.seg rfl (ST.callq (.arr 513 Km) (Ext.refl _) rfl (fun n' h1 h2 => laws_toModule d t Km _ _ kd cm) ?_)
          refine FT.fork ?_ ?_
          · refine FT.seg rfl (ST.call (R := fun r H' => ∃ lv bl, r = .s lv ∧ VN H' lv len L bl ∧ (bl = 0 ∨ ∃ k, H'.get bl = some k) ∧ Ext H5 H' ∧ ∀ x, x < n9 → H'.get x = H5.get x) rfl (fun n' h1 h2 => (tvN H5 n' (by omega) (fun x hx => by rw [(fun x (_ : x < n9) => (rfl : H5.get x = H5.get x)) x (by omega)]; exact H5n x (by omega)) h2).mono (fun r H' _ _ q => by
              obtain ⟨lv, bl, q1, q2, q3, q4, q5⟩ := q
              exact ⟨⟨lv, bl, q1, q2, q3, q4, fun x hx => q5 x (by omega)⟩, (Ext.refl _).trans q4⟩)) ?_)
            rintro r HL1 ⟨lv, bl, rfl, V, hbl, hX1, lo1⟩ hE1
            have low1 : ∀ x, x < n9 → HL1.get x = H5.get x := fun x hx => by rw [lo1 x hx, (fun x (_ : x < n9) => (rfl : H5.get x = H5.get x)) x hx]
            refine FT.fork ?_ ?_
            · refine FT.seg rfl (ST.callq (.tup [.arr 513 (modC d' t'), i64 C]) hE1 rfl (fun n' h1 h2 => impl_QuotientModule' bl lv _ n' V (by rcases hbl with q | ⟨kk, q⟩; (· omega); exact getlt h2 q)) ?_)
              refine FT.seg rfl (ST.mov (by exact rfl) ?_)
              refine FT.seg rfl (ST.ex (by exact rfl) (by exact rfl) ?_)
              refine FT.seg rfl (ST.ex (by exact rfl) (by exact rfl) ?_)
              refine FT.seg rfl (ST.new hE1 ?_)
              intro b13 hb13 hf13
              have hF13 : H5.get b13 = none := hE1.none (hf13 b13 (Nat.le_refl _))
              obtain ⟨HN2, hH2⟩ : ∃ HN : Hp, HN = (b13, ⟨Zs.size [(1, SV.int .i64 0), (512, SV.int .u8 0)], Zs.c [(1, SV.int .i64 0), (512, SV.int .u8 0)], 36⟩) :: HL1 := ⟨_, rfl⟩
              rw [← hH2]
              have g82 : HN2.get b13 = some ⟨Zs.size [(1, SV.int .i64 0), (512, SV.int .u8 0)], Zs.c [(1, SV.int .i64 0), (512, SV.int .u8 0)], 36⟩ := by rw [hH2]; exact Hp.get_eq _ _ _
              have hE2 : Ext H5 HN2 := by rw [hH2]; exact hE1.push _ (hf13 b13 (Nat.le_refl _))
              have low2 : ∀ x, x < n9 → HN2.get x = H5.get x := fun x hx => by rw [hH2, Hp.get_ne _ _ (by omega), low1 x hx]
              refine FT.seg rfl (ST.sta (c := modC d' t') (by exact rfl) (by exact rfl) g82 (by simp [Zs.size]) hF13 hE2 ?_)
              refine FT.seg rfl (ST.mov (by exact rfl) ?_)
              exact FT.done ⟨b13, _, by (repeat first | exact trivial | refine And.intro rfl ?_), Hp.get_set_self _ g82, rfl, fun q hq => by (try dsimp only); unfold splice; rw [if_pos (by omega), Nat.sub_zero], by omega, fun x hx => by rw [Hp.get_set_other _ (by omega)]; exact low2 x hx⟩
            · refine FT.seg rfl (ST.new hE1 ?_)
              intro b13 hb13 hf13
              have hF13 : H5.get b13 = none := hE1.none (hf13 b13 (Nat.le_refl _))
              obtain ⟨HN2, hH2⟩ : ∃ HN : Hp, HN = (b13, ⟨Zs.size [(1, SV.int .i64 0), (512, SV.int .u8 0)], Zs.c [(1, SV.int .i64 0), (512, SV.int .u8 0)], 36⟩) :: HL1 := ⟨_, rfl⟩
              rw [← hH2]
              have g82 : HN2.get b13 = some ⟨Zs.size [(1, SV.int .i64 0), (512, SV.int .u8 0)], Zs.c [(1, SV.int .i64 0), (512, SV.int .u8 0)], 36⟩ := by rw [hH2]; exact Hp.get_eq _ _ _
              have hE2 : Ext H5 HN2 := by rw [hH2]; exact hE1.push _ (hf13 b13 (Nat.le_refl _))
              have low2 : ∀ x, x < n9 → HN2.get x = H5.get x := fun x hx => by rw [hH2, Hp.get_ne _ _ (by omega), low1 x hx]
              have hbl8 : bl = 0 ∨ b13 ≠ bl := by
                rcases hbl with q | ⟨kk, q⟩
                · exact .inl q
                · right
                  rintro rfl
                  rw [hf13 _ (Nat.le_refl _)] at q; cases q
              have hb130 : b13 ≠ 0 := by omega
              have V2 := V.keep (H' := HN2) (by rw [hH2, Hp.get_ne _ _ (by rcases hbl8 with q | q <;> omega)])
              have hbl2 : bl = 0 ∨ ∃ k, HN2.get bl = some k := by
                rcases hbl with q | ⟨kk, q⟩
                · exact .inl q
                · exact .inr ⟨kk, by rw [hH2, Hp.get_ne _ _ (by rcases hbl8 with q | q <;> omega)]; exact q⟩
              clear V hbl
              have V := V2
              have hbl := hbl2
              clear V2 hbl2
              refine FT.seg rfl (ST.callq (.tup [.arr 513 (modC d' t'), i64 C]) hE2 rfl (fun n' h1 h2 => impl_QuotientModule' bl lv _ n' V (by rcases hbl with q | ⟨kk, q⟩; (· omega); exact getlt h2 q)) ?_)
              refine FT.seg rfl (ST.mov (by exact rfl) ?_)
              refine FT.seg rfl (ST.ex (by exact rfl) (by exact rfl) ?_)
              refine FT.seg rfl (ST.ex (by exact rfl) (by exact rfl) ?_)
              refine FT.seg rfl (ST.sta (c := modC d' t') (by exact rfl) (by exact rfl) g82 (by simp [Zs.size]) hF13 hE2 ?_)
              refine FT.seg rfl (ST.mov (by exact rfl) ?_)
              exact FT.done ⟨b13, _, by (repeat first | exact trivial | refine And.intro rfl ?_), Hp.get_set_self _ g82, rfl, fun q hq => by (try dsimp only); unfold splice; rw [if_pos (by omega), Nat.sub_zero], by omega, fun x hx => by rw [Hp.get_set_other _ (by omega)]; exact low2 x hx⟩
          · refine FT.seg rfl (ST.new (Ext.refl _) ?_)
            intro b13 hb13 hf13
            have hF13 : H5.get b13 = none := (Ext.refl _).none (hf13 b13 (Nat.le_refl _))
            obtain ⟨HN1, hH1⟩ : ∃ HN : Hp, HN = (b13, ⟨Zs.size [(1, SV.int .i64 0), (512, SV.int .u8 0)], Zs.c [(1, SV.int .i64 0), (512, SV.int .u8 0)], 36⟩) :: H5 := ⟨_, rfl⟩
            rw [← hH1]
            have g81 : HN1.get b13 = some ⟨Zs.size [(1, SV.int .i64 0), (512, SV.int .u8 0)], Zs.c [(1, SV.int .i64 0), (512, SV.int .u8 0)], 36⟩ := by rw [hH1]; exact Hp.get_eq _ _ _
            have hE1 : Ext H5 HN1 := by rw [hH1]; exact (Ext.refl _).push _ (hf13 b13 (Nat.le_refl _))
            have low1 : ∀ x, x < n9 → HN1.get x = H5.get x := fun x hx => by rw [hH1, Hp.get_ne _ _ (by omega), (fun x (_ : x < n9) => (rfl : H5.get x = H5.get x)) x hx]
            refine FT.seg rfl (ST.call (R := fun r H' => ∃ lv bl, r = .s lv ∧ VN H' lv len L bl ∧ (bl = 0 ∨ ∃ k, H'.get bl = some k) ∧ Ext HN1 H' ∧ ∀ x, x < n9 → H'.get x = HN1.get x) rfl (fun n' h1 h2 => (tvN HN1 n' (by omega) (fun x hx => by rw [low1 x (by omega)]; exact H5n x (by omega)) h2).mono (fun r H' _ _ q => by
              obtain ⟨lv, bl, q1, q2, q3, q4, q5⟩ := q
              exact ⟨⟨lv, bl, q1, q2, q3, q4, fun x hx => q5 x (by omega)⟩, hE1.trans q4⟩)) ?_)
            rintro r HL2 ⟨lv, bl, rfl, V, hbl, hX2, lo2⟩ hE2
            have low2 : ∀ x, x < n9 → HL2.get x = H5.get x := fun x hx => by rw [lo2 x hx, low1 x hx]
            have g82 := hX2 _ _ g81
            refine FT.seg rfl (ST.callq (.tup [.arr 513 (modC d' t'), i64 C]) hE2 rfl (fun n' h1 h2 => impl_QuotientModule' bl lv _ n' V (by rcases hbl with q | ⟨kk, q⟩; (· omega); exact getlt h2 q)) ?_)
            refine FT.seg rfl (ST.mov (by exact rfl) ?_)
            refine FT.seg rfl (ST.ex (by exact rfl) (by exact rfl) ?_)
            refine FT.seg rfl (ST.ex (by exact rfl) (by exact rfl) ?_)
            refine FT.seg rfl (ST.sta (c := modC d' t') (by exact rfl) (by exact rfl) g82 (by simp [Zs.size]) hF13 hE2 ?_)
            refine FT.seg rfl (ST.mov (by exact rfl) ?_)
            exact FT.done ⟨b13, _, by (repeat first | exact trivial | refine And.intro rfl ?_), Hp.get_set_self _ g82, rfl, fun q hq => by (try dsimp only); unfold splice; rw [if_pos (by omega), Nat.sub_zero], by omega, fun x hx => by rw [Hp.get_set_other _ (by omega)]; exact low2 x hx⟩
        · refine FT.seg rfl (ST.new (Ext.refl _) ?_)
          intro b13 hb13 hf13
          have hF13 : H5.get b13 = none := (Ext.refl _).none (hf13 b13 (Nat.le_refl _))
          obtain ⟨HN1, hH1⟩ : ∃ HN : Hp, HN = (b13, ⟨Zs.size [(1, SV.int .i64 0), (512, SV.int .u8 0)], Zs.c [(1, SV.int .i64 0), (512, SV.int .u8 0)], 36⟩) :: H5 := ⟨_, rfl⟩
          rw [← hH1]
          have g81 : HN1.get b13 = some ⟨Zs.size [(1, SV.int .i64 0), (512, SV.int .u8 0)], Zs.c [(1, SV.int .i64 0), (512, SV.int .u8 0)], 36⟩ := by rw [hH1]; exact Hp.get_eq _ _ _
          have hE1 : Ext H5 HN1 := by rw [hH1]; exact (Ext.refl _).push _ (hf13 b13 (Nat.le_refl _))
          have low1 : ∀ x, x < n9 → HN1.get x = H5.get x := fun x hx => by rw [hH1, Hp.get_ne _ _ (by omega), (fun x (_ : x < n9) => (rfl : H5.get x = H5.get x)) x hx]
          refine FT.seg rfl (ST.callq (.arr 513 Km) hE1 rfl (fun n' h1 h2 => laws_toModule d t Km _ _ kd cm) ?_)
          refine FT.seg rfl (ST.call (R := fun r H' => ∃ lv bl, r = .s lv ∧ VN H' lv len L bl ∧ (bl = 0 ∨ ∃ k, H'.get bl = some k) ∧ Ext HN1 H' ∧ ∀ x, x < n9 → H'.get x = HN1.get x) rfl (fun n' h1 h2 => (tvN HN1 n' (by omega) (fun x hx => by rw [low1 x (by omega)]; exact H5n x (by omega)) h2).mono (fun r H' _ _ q => by
            obtain ⟨lv, bl, q1, q2, q3, q4, q5⟩ := q
            exact ⟨⟨lv, bl, q1, q2, q3, q4, fun x hx => q5 x (by omega)⟩, hE1.trans q4⟩)) ?_)
          rintro r HL2 ⟨lv, bl, rfl, V, hbl, hX2, lo2⟩ hE2
          have low2 : ∀ x, x < n9 → HL2.get x = H5.get x := fun x hx => by rw [lo2 x hx, low1 x hx]
          have g82 := hX2 _ _ g81
          refine FT.seg rfl (ST.callq (.tup [.arr 513 (modC d' t'), i64 C]) hE2 rfl (fun n' h1 h2 => impl_QuotientModule' bl lv _ n' V (by rcases hbl with q | ⟨kk, q⟩; (· omega); exact getlt h2 q)) ?_)
          refine FT.seg rfl (ST.mov (by exact rfl) ?_)
          refine FT.seg rfl (ST.ex (by exact rfl) (by exact rfl) ?_)
          refine FT.seg rfl (ST.ex (by exact rfl) (by exact rfl) ?_)
          refine FT.seg rfl (ST.sta (c := modC d' t') (by exact rfl) (by exact rfl) g82 (by simp [Zs.size]) hF13 hE2 ?_)
          refine FT.seg rfl (ST.mov (by exact rfl) ?_)
          exact FT.done ⟨b13, _, by (repeat first | exact trivial | refine And.intro rfl ?_), Hp.get_set_self _ g82, rfl, fun q hq => by (try dsimp only); unfold splice; rw [if_pos (by omega), Nat.sub_zero], by omega, fun x hx => by rw [Hp.get_set_other _ (by omega)]; exact low2 x hx⟩
      · refine FT.seg rfl (ST.new (Ext.refl _) ?_)
        intro b13 hb13 hf13
        have hF13 : H5.get b13 = none := (Ext.refl _).none (hf13 b13 (Nat.le_refl _))
        obtain ⟨HN1, hH1⟩ : ∃ HN : Hp, HN = (b13, ⟨Zs.size [(1, SV.int .i64 0), (512, SV.int .u8 0)], Zs.c [(1, SV.int .i64 0), (512, SV.int .u8 0)], 36⟩) :: H5 := ⟨_, rfl⟩
        rw [← hH1]
        have g81 : HN1.get b13 = some ⟨Zs.size [(1, SV.int .i64 0), (512, SV.int .u8 0)], Zs.c [(1, SV.int .i64 0), (512, SV.int .u8 0)], 36⟩ := by rw [hH1]; exact Hp.get_eq _ _ _
        have hE1 : Ext H5 HN1 := by rw [hH1]; exact (Ext.refl _).push _ (hf13 b13 (Nat.le_refl _))
        have low1 : ∀ x, x < n9 → HN1.get x = H5.get x := fun x hx => by rw [hH1, Hp.get_ne _ _ (by omega), (fun x (_ : x < n9) => (rfl : H5.get x = H5.get x)) x hx]
        refine FT.seg rfl (ST.callq (.arr 1106 Kh) hE1 rfl (fun n' h1 h2 => laws_toHopf h Kh _ _ hK) ?_)
        refine FT.seg rfl (ST.callq (.arr 513 Km) hE1 rfl (fun n' h1 h2 => laws_toModule d t Km _ _ kd cm) ?_)
        refine FT.seg rfl (ST.call (R := fun r H' => ∃ lv bl, r = .s lv ∧ VN H' lv len L bl ∧ (bl = 0 ∨ ∃ k, H'.get bl = some k) ∧ Ext HN1 H' ∧ ∀ x, x < n9 → H'.get x = HN1.get x) rfl (fun n' h1 h2 => (tvN HN1 n' (by omega) (fun x hx => by rw [low1 x (by omega)]; exact H5n x (by omega)) h2).mono (fun r H' _ _ q => by
          obtain ⟨lv, bl, q1, q2, q3, q4, q5⟩ := q
          exact ⟨⟨lv, bl, q1, q2, q3, q4, fun x hx => q5 x (by omega)⟩, hE1.trans q4⟩)) ?_)
        rintro r HL2 ⟨lv, bl, rfl, V, hbl, hX2, lo2⟩ hE2
        have low2 : ∀ x, x < n9 → HL2.get x = H5.get x := fun x hx => by rw [lo2 x hx, low1 x hx]
        have g82 := hX2 _ _ g81
        refine FT.seg rfl (ST.callq (.tup [.arr 513 (modC d' t'), i64 C]) hE2 rfl (fun n' h1 h2 => impl_QuotientModule' bl lv _ n' V (by rcases hbl with q | ⟨kk, q⟩; (· omega); exact getlt h2 q)) ?_)
        refine FT.seg rfl (ST.mov (by exact rfl) ?_)
        refine FT.seg rfl (ST.ex (by exact rfl) (by exact rfl) ?_)
        refine FT.seg rfl (ST.ex (by exact rfl) (by exact rfl) ?_)
        refine FT.seg rfl (ST.sta (c := modC d' t') (by exact rfl) (by exact rfl) g82 (by simp [Zs.size]) hF13 hE2 ?_)
        refine FT.seg rfl (ST.mov (by exact rfl) ?_)
        exact FT.done ⟨b13, _, by (repeat first | exact trivial | refine And.intro rfl ?_), Hp.get_set_self _ g82, rfl, fun q hq => by (try dsimp only); unfold splice; rw [if_pos (by omega), Nat.sub_zero], by omega, fun x hx => by rw [Hp.get_set_other _ (by omega)]; exact low2 x hx⟩
    rintro e' H6 ⟨b13, K13, hle, g13, s13, c13, hb13, lo6⟩ n10 hn10 hlt10
    dsimp only [Ex.then, Ex.inBlock]
    refine CS.weak hle (Drops.refl _ _) ?_
    have u8' : H6.get b8 = some K8 := by rw [lo6 b8 (by omega)]; exact w8
    have lo6' : ∀ x, x < n → H6.get x = none := fun x hx => by rw [lo6 x (by omega)]; exact H5n x hx
    have b13n := hlt10 _ _ g13
    clear hle hlt10 lo6
    (repeat first|refine zG ?_|(refine LS.nilO ?_;intro nq hnq hltq;try refine zU ?_)|(refine MS.new ?_;intro bq hbq hbqf;try refine zU ?_)|(refine MS.nil ?_;intro nq hnq hltq;have hlq:=hltq _ _ (Hp.get_eq _ _ _);clear hltq;try refine zU ?_)|(refine LS.nilQ ?_;try with_reducible intro nq hnq;try refine zU ?_))
    refine RS.call rfl ((FnS.args (concs_cons (conc_arr (fun q hq => ?_)) (concs_cons (conc_arr (fun q hq => ?_)) rfl)) (laws_eqModule d' t' _ _)).mono ?_)
    · first | exact c13 q hq | (simp only [Nat.zero_add]; exact c13 q hq)
    · first | exact c8 q hq | (simp only [Nat.zero_add]; exact c8 q hq)
    rintro r H6 n11 hn11 ⟨rfl, rfl⟩
    (repeat first|refine zG ?_|(refine LS.nilO ?_;intro nq hnq hltq;try refine zU ?_)|(refine MS.new ?_;intro bq hbq hbqf;try refine zU ?_)|(refine MS.nil ?_;intro nq hnq hltq;have hlq:=hltq _ _ (Hp.get_eq _ _ _);clear hltq;try refine zU ?_)|(refine LS.nilQ ?_;try with_reducible intro nq hnq;try refine zU ?_))
    simp only [bne_self_eq_false]
    (repeat first|refine zG ?_|(refine LS.nilO ?_;intro nq hnq hltq;try refine zU ?_)|(refine MS.new ?_;intro bq hbq hbqf;try refine zU ?_)|(refine MS.nil ?_;intro nq hnq hltq;have hlq:=hltq _ _ (Hp.get_eq _ _ _);clear hltq;try refine zU ?_)|(refine LS.nilQ ?_;try with_reducible intro nq hnq;try refine zU ?_))
    refine ⟨_, [], rfl, fun x => .inl ⟨rfl, ?_⟩, rfl, rfl⟩
    by_cases e : n ≤ x
    · exact .inr e
    · exact .inl (lo6' x (by omega))
  · rw [if_neg hl]
    (repeat first|refine zG ?_|(refine LS.nilO ?_;intro nq hnq hltq;try refine zU ?_)|(refine MS.new ?_;intro bq hbq hbqf;try refine zU ?_)|(refine MS.nil ?_;intro nq hnq hltq;have hlq:=hltq _ _ (Hp.get_eq _ _ _);clear hltq;try refine zU ?_)|(refine LS.nilQ ?_;try with_reducible intro nq hnq;try refine zU ?_))
    exact ⟨_, [], rfl, by exact zD, rfl, rfl⟩

end Go.Proofs.YtkmfdhicjaccaaaGreat
