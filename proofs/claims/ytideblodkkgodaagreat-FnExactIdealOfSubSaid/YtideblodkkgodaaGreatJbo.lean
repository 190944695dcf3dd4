/- Reduced lists, the program's. -/
import Derived.Test.YtideblodkkgodaaGreatJbn
set_option linter.unusedSectionVars false
set_option linter.unusedVariables false
set_option linter.unusedSimpArgs false

namespace Go.V

variable [BW]

set_option linter.unusedSimpArgs false

set_option linter.unusedVariables false

theorem OFT.hp {P : Program} {N m : Nat} {ll : List Ins} {t : OT} {e : Env} {H H1 F : Hp} {n : Nat} {K : Env → Hp → Prop} (h : H = H1) (h2 : OFT P N m ll t e H1 F n K) : OFT P N m ll t e H F n K := h ▸ h2

end Go.V

namespace Go.Proofs.YtideblodkkgodaaGreat

open Go.V

variable [BW]

set_option linter.unusedSimpArgs false

set_option linter.unusedVariables false

set_option maxHeartbeats 4000000

theorem solve_red (p : Int) (m : Nat) (R0 : Nat → Nat → Int) (sb rb : Nat) (bk cp : Nat → Nat) (ks : Blk) (H : Hp) (n : Nat) (hp : isP p = true) (hm : m ≤ 2000000) (hS : SY H sb p 8 m R0 rb bk cp ks) (hnil : m = 0 → ks.c 3 = .nils) (hR : ∀ k x, k < m → x ≤ 8 → 0 ≤ R0 k x ∧ R0 k x < p) :
    FnS Tryz.prog 69 [ptr sb 0] H n (fun r H' n' => ∃ R P d bk' ks', d ≤ m ∧ RR p (zc 8 R) d P ∧ same p (zc 8 R) d (zc 8 R0) m ∧ SY H' sb p 8 d R rb bk' cp ks' ∧ (∀ x, n' ≤ x → H'.get x = none) ∧ ∀ x, x < n → x ≠ sb → x ≠ rb → (∀ k, k < m → x ≠ bk k) → H'.get x = H.get x) := by
  rcases Nat.eq_zero_or_pos m with rfl | hm1
  · refine (system_solve0 p 8 sb ks H n hS.g hS.s hS.c2 (hnil rfl)).mono ?_
    rintro r H' n' hn ⟨rfl, ⟨ks', q1, q2, q3, q4, q5, q6, q7⟩, hfr, hlow⟩
    exact ⟨R0, fun _ => 0, 0, bk, ks', Nat.le_refl _, ⟨fun k hk => by omega, fun k hk => by omega, fun k k' h1 h2 => by omega, fun k hk => by omega, fun k j hk => by omega, fun k x hk => by omega⟩, ⟨fun k hk => by omega, fun k hk => by omega⟩,
      { g := q1, s := q2, c0 := q3.trans hS.c0, c1 := q4.trans hS.c1, c2 := q5.trans hS.c2, rows := .inl ⟨q6, rfl⟩, row := fun i hi => by omega, qc := fun i hi => by omega, d1 := hS.d1, d2 := fun i hi => by omega, d3 := fun i j hi => by omega }, hfr, fun x h1 h2 _ _ => hlow x h1 h2⟩
  · refine (system_solve p 8 m R0 sb rb bk cp ks H n hp (by omega) hm hm1 (fun R => same p (zc 8 R) m (zc 8 R0) m) (same_refl _ _ _) (fun R x y hx hy q => zc_same_swp hx hy q) (fun R d c hd hc h0 q => zc_same_clr hp hd hc h0 q) hS hR).mono ?_
    rintro r H' n' hn ⟨R, P, d, bk', ks', pb, rfl, hdm, hrf, hJ, hS3, _, _, hfr, hlow⟩
    exact ⟨R, P, d, bk', ks', hdm, hrf.rrz (isP_le hp).1 (by omega), same_trans hrf.samez hJ, hS3, hfr, hlow⟩

/-- impl.reduced -/
def ir50 : Cd := (.seq (.reg [⟨some 4,none,.mov (.c .nils)⟩]) (.seq (.reg [⟨some 11,none,.mov (.t 0)⟩,⟨some 12,none,.call 67 [(.t 11),(.c (.int .i64 8))]⟩,⟨some 5,none,.mov (.t 12)⟩]) (.seq (.seq (.reg [⟨some 13,none,.mov (.t 1)⟩,⟨some 14,none,.len (.t 13)⟩,⟨some 15,none,.mov (.c (.int .i64 0))⟩]) (.block 0 (.loop (.seq (.reg [⟨some 16,none,.bin .lss (.t 15) (.t 14)⟩]) (.seq (.cond (.t 16) .skip (.exit 0)) (.seq (.block 1 (.seq (.reg [⟨some 17,none,.isl 8 (.t 13) (.t 15)⟩,⟨some 18,none,.ld (some 8) (.t 17)⟩,⟨some 7,none,.new 32 [(8,(.int .u8 0))]⟩,⟨none,none,.st 8 (.t 7) (.t 18)⟩]) (.drwf (.seg 0 (.seg 1 (.seg 2 (.seg 3 (.seg 4 (.seg 5 (.fork (.seg 6 (.seg 7 (.seg 8 (.seg 9 (.seg 10 (.seg 11 (.seg 12 (.seg 13 .done)))))))) (.seg 7 (.seg 6 (.seg 8 (.seg 9 (.seg 10 (.seg 11 (.seg 12 (.seg 13 .done))))))))))))))) [⟨some 19,none,.mov (.t 5)⟩,⟨some 20,none,.mov (.t 5)⟩,⟨some 21,none,.ck (.t 20)⟩,⟨some 22,none,.fa 3 (.t 21)⟩,⟨some 23,none,.ld none (.t 22)⟩,⟨some 24,none,.sla 8 1 (.t 7) none none none⟩,⟨some 25,none,.call 68 [(.t 24)]⟩,⟨some 26,none,.bsl 5 1 1 [(1,(.int .u8 0))] [(0,1,(.c (.int .u8 0)))]⟩,⟨some 27,none,.app 5 1 1 [(1,(.int .u8 0))] (.t 25) (.t 26)⟩,⟨some 28,none,.bsl 104 1 1 [(1,.nils)] [(0,1,(.t 27))]⟩,⟨some 29,none,.app 104 1 24 [(1,.nils)] (.t 23) (.t 28)⟩,⟨some 30,none,.ck (.t 19)⟩,⟨some 31,none,.fa 3 (.t 30)⟩,⟨none,none,.st 1 (.t 31) (.t 29)⟩]))) (.reg [⟨some 32,none,.bin .add (.t 15) (.c (.int .i64 1))⟩,⟨some 15,none,.mov (.t 32)⟩]))))))) (.seq (.reg [⟨some 33,none,.mov (.t 5)⟩,⟨some 34,none,.call 69 [(.t 33)]⟩]) (.seq (.reg [⟨some 35,none,.bsl 32 0 8 [(8,(.int .u8 0))] []⟩,⟨some 8,none,.mov (.t 35)⟩]) (.seq (.seq (.reg [⟨some 36,none,.mov (.t 5)⟩,⟨some 37,none,.ck (.t 36)⟩,⟨some 38,none,.fa 3 (.t 37)⟩,⟨some 39,none,.ld none (.t 38)⟩,⟨some 40,none,.len (.t 39)⟩,⟨some 41,none,.mov (.c (.int .i64 0))⟩]) (.block 2 (.loop (.seq (.reg [⟨some 42,none,.bin .lss (.t 41) (.t 40)⟩]) (.seq (.cond (.t 42) .skip (.exit 2)) (.seq (.block 3 (.seq (.reg [⟨some 43,none,.isl 1 (.t 39) (.t 41)⟩,⟨some 44,none,.ld none (.t 43)⟩,⟨some 10,none,.mov (.t 44)⟩]) (.reg [⟨some 45,none,.mov (.t 8)⟩,⟨some 46,none,.mov (.t 10)⟩,⟨some 47,none,.sls 1 (.t 46) none (some (.c (.int .i64 8))) none⟩,⟨some 48,none,.s2a 8 (.t 47)⟩,⟨some 49,none,.ld (some 8) (.t 48)⟩,⟨some 50,none,.bsl 32 1 8 [(8,(.int .u8 0))] [(0,8,(.t 49))]⟩,⟨some 51,none,.app 32 8 8 [(8,(.int .u8 0))] (.t 45) (.t 50)⟩,⟨some 8,none,.mov (.t 51)⟩]))) (.reg [⟨some 52,none,.bin .add (.t 41) (.c (.int .i64 1))⟩,⟨some 41,none,.mov (.t 52)⟩]))))))) (.seq (.reg [⟨some 53,none,.mov (.t 8)⟩,⟨some 4,none,.mov (.t 53)⟩]) .ret)))))))

set_option maxRecDepth 100000 in
theorem tr50 : trFn Tryz.prog Tryz.f50 = some (54, ir50, [.tmp 4]) := by kernel_rfl

theorem impl_reduced (p : Int) (A : Nat → Nat → Int) (m b : Nat) (sv : SV) (H : Hp) (n : Nat) (hp : isP p = true) (hm : m ≤ 1000000) (hL : VL H sv m A b) (hA : ∀ i, i < m → isRes p 8 (A i)) :
    FnS Tryz.prog 50 [i64 p, .s sv] H n (fun r H' n' => ∃ sv' A' d' P' b', r = .s sv' ∧ VL H' sv' d' A' b' ∧ RR p A' d' P' ∧ same p A' d' A m ∧ n ≤ b' ∧ b' < n' ∧ (∀ x, n' ≤ x → H'.get x = none) ∧ ∀ x, x < n → H'.get x = H.get x) := by
  have hb := isP_le hp
  obtain ⟨o, cap, K, rfl, gb, ho, hmc, hc⟩ := hL
  refine FnS.of_body Tryz.func50 tr50 (by simp) (fun hf => ?_)
  dsimp only [argEnv]
  unfold ir50
  have hbn := getlt hf gb
  (refine zG ?_)
  refine RS.call rfl ((impl_newSystem p 8 _ _).mono ?_)
  rintro r H' n1 hn1 ⟨rfl, hn1', ks0, rfl, k5, k0, k1, k2, k3, k4⟩
  (refine zG ?_)
  refine CS.iterJ m (fun i => [(15, i64 (i : Nat)), (14, i64 (m : Nat)), (13, .s (.slc b o m cap)), (5, ptr n 0), (0, i64 p)])
    (fun i H1 n2 => ∃ rb bk cp ks, SY H1 n p 8 i (zc 8 A) rb bk cp ks ∧ n < rb ∧ rb ≤ n2 ∧ (∀ j, j < i → n < bk j) ∧ (i = 0 → ks.c 3 = .nils) ∧ (∀ x, x < n → H1.get x = H.get x) ∧ ∀ x, n2 ≤ x → H1.get x = none) (by (repeat first | exact trivial | refine And.intro rfl ?_)) ?_ ?_
  · exact ⟨n + 1, fun _ => n + 1, fun _ => 0, ks0, { g := Hp.get_eq _ _ _, s := k5, c0 := k0, c1 := k1, c2 := k2, rows := .inl ⟨k3, rfl⟩, row := fun i hi => by omega, qc := fun i hi => by omega, d1 := by omega, d2 := fun i hi => by omega, d3 := fun i j hi => by omega }, by omega, by omega, fun j hj => by omega, fun _ => k3, fun x hx => Hp.get_ne _ _ (by omega), fun x hx => by rw [Hp.get_ne _ _ (by omega)]; exact hf x (by omega)⟩
  rintro i n2 H1 hi hn2 ⟨rb, bk, cp, ks, hS, hrb, hrb2, hbk, hnil, hlow, hfr⟩
  have gs := hS.g
  have ss := hS.s
  have gb1 : H1.get b = some K := by rw [hlow b hbn]; exact gb
  have hbkn : ∀ j, j < i → bk j < n2 := fun j hj => by
    obtain ⟨kj, gj, _⟩ := hS.row j hj
    exact getlt hfr gj
  (refine zG ?_)
  refine zI ?_ ?_<;>intro h1
  · have hi' : i < m := by omega
    have e9 : ∀ x, x < 8 → K.c (o + i * 8 + x) = .int .u8 (A i x) := fun x hx => by rw [Nat.add_assoc]; exact hc i x hi' hx
    (refine zG ?_)
    refine CS.hp (H1 := (n2, ⟨8, bys (A i), 32⟩) :: H1) rfl ?_
    obtain ⟨HX, hHX⟩ : ∃ HX : Hp, HX = (n2, ⟨8, bys (A i), 32⟩) :: H1 := ⟨_, rfl⟩
    rw [← hHX]
    have gsX : HX.get n = some ks := by rw [hHX, Hp.get_ne _ _ (by have := getlt hfr gs; omega)]; exact gs
    have hnn2 := getlt hfr gs
    have hEX := Ext.one gsX
    refine CS.ordF [(n, ks)] hEX ?_
    refine OFT.seg rfl (by intro q; cases q) (ST.mov (by exact rfl) ?_)
    refine OFT.seg rfl (by intro q; cases q) (ST.mov (by exact rfl) ?_)
    refine OFT.seg rfl (by intro q; cases q) (ST.ck (by exact rfl) ?_)
    refine OFT.seg rfl (by intro q; cases q) (ST.fa (by exact rfl) ?_)
    refine OFT.seg rfl (by intro q; cases q) (ST.ld1 (k := ks) (by exact rfl) (Hp.get_eq _ _ _) (by omega) rfl ?_)
    refine OFT.seg rfl (by intro q; cases q) (ST.slaAll (by exact rfl) (by omega) ?_)
    refine OFT.fork ?_ ?_
    · skip
      refine OFT.seg rfl (by intro q; cases q) (ST.call (R := fun r H' => ∃ b' cap' k' nC, r = .s (.slc b' 0 8 cap') ∧ H'.get b' = some k' ∧ cap' ≤ k'.size ∧ 8 ≤ cap' ∧ (∀ x, x < 8 → k'.c x = .int .u8 (A i x)) ∧ n2 + 1 ≤ nC ∧ nC ≤ b' ∧ ∀ x, x < nC → H'.get x = HX.get x) rfl (fun n' hn' hfx => (slices_CloneB (A i) n2 _ _ _ (by rw [hHX]; exact Hp.get_eq _ _ _) rfl (fun x hx => rfl)).mono (fun r H' n'' hn'' ⟨b', cap', k', q1, q2, q3, q4, q5, q6, q7, q8, q9⟩ => ⟨⟨b', cap', k', n', q1, q2, q3, q4, q5, hn', q6, q9⟩, Ext.one (by rw [q9 n (by omega)]; exact gsX)⟩)) ?_)
      rintro r HC ⟨bC, capC, kC, nC, rfl, gC0, sC, hC8, cC, hnC, hbC, lC⟩ hEC
      refine OFT.seg rfl (by intro q; cases q) (ST.bsl hEC rfl ?_)
      intro b2 hb2 hf2
      have h2C : b2 ≠ bC := fun q => by have := hf2 b2 (Nat.le_refl _); rw [q, gC0] at this; cases this
      obtain ⟨HY, hHY⟩ : ∃ HY : Hp, HY = (b2, ⟨1 * 1, put1 (fun i => Zs.c [(1, SV.int .u8 0)] (i % 1)) 0 (.int .u8 0), 5⟩) :: HC := ⟨_, rfl⟩
      have gC : HY.get bC = some kC := by rw [hHY, Hp.get_ne _ _ h2C]; exact gC0
      have g2 : HY.get b2 = some ⟨1 * 1, put1 (fun i => Zs.c [(1, SV.int .u8 0)] (i % 1)) 0 (.int .u8 0), 5⟩ := by rw [hHY]; exact Hp.get_eq _ _ _
      have lY : ∀ x, x < n2 + 1 → HY.get x = HX.get x := fun x hx => by rw [hHY, Hp.get_ne _ _ (by omega)]; exact lC x (by omega)
      have hrC : rb ≠ bC := by omega
      refine OFT.hp hHY.symm ?_
      have gsY : Ext [(n, ks)] HY := Ext.one (by rw [lY n (by omega)]; exact gsX)
      refine red_tail (i := i) (sb := n) (bC := bC) (capC := capC) (kC := kC) (ks := ks) (w := A i) (F := [(n, ks)]) (G := fun k => .slc (bk k) 0 (8 + 1) (cp (bk k))) (rb := rb) (v3 := ks.c 3) rfl rfl rfl rfl rfl rfl rfl rfl rfl rfl gsY gC sC hC8 cC g2 rfl rfl ?_ (by omega) (by omega) (by omega) (hrC) ss ?_
      · rcases hS.rows with q | ⟨o3, c3, k3, q1, q2, q3⟩
        · exact .inl q
        · exact .inr ⟨o3, c3, k3, q1, by rw [lY rb (by have := getlt hfr q2; omega), hHX, Hp.get_ne _ _ (by have := getlt hfr q2; omega)]; exact q2, q3⟩
      intro v' b' b28 bR capR kR H4 hR9 gR sR cR cR8 hbR hV' hb' hb'R hRs hb's gs4 l4
      intro n4 hn4 hlt4
      have hRn : n2 + 1 ≤ bR := by rcases hbR with q | ⟨q, _⟩ <;> omega
      have hb'n : n < b' := by rcases hb' with ⟨q, _⟩ | ⟨q, _⟩ <;> omega
      have l5 : ∀ x, x < n2 → x ≠ n → x ≠ b' → H4.get x = H1.get x := fun x q1 q2 q3 => by
        rw [l4 x (by omega) q2 (by omega) q3, lY x (by omega), hHX, Hp.get_ne _ _ (by omega)]
      have hbb : ∀ j, j < i → bk j ≠ b' := fun j hj => by
        have h1 := (hS.d2 j hj).2
        have h2 := hbkn j hj
        rcases hb' with ⟨q, _⟩ | ⟨q, _⟩ <;> omega
      have hb'4 : b' < n4 := by
        rcases hV' with ⟨_, q⟩ | ⟨o3, c3, k3, _, q, _⟩
        · omega
        · exact hlt4 b' k3 q
      have hrows : SL H4 (put1 ks.c 3 v' 3) (i + 1) (fun k => .slc (if k = i then bR else bk k) 0 (8 + 1) (if (if k = i then bR else bk k) = bR then capR else cp (if k = i then bR else bk k))) b' := by
        have e0 : put1 ks.c 3 v' 3 = v' := by simp [put1]
        rw [e0]
        refine hV'.same (fun k hk => ?_)
        unfold snS
        (try dsimp only)
        by_cases e : k = i
        · rw [if_pos e, if_pos e, if_pos rfl]
        · have h2 := hbkn k (by omega)
          rw [if_neg e, if_neg e, if_neg (by omega)]
      (refine zG ?_)
      refine ⟨by omega, by (repeat first | exact trivial | refine And.intro rfl ?_), H4, Drops.refl _ _, b', (fun k => if k = i then bR else bk k), (fun x => if x = bR then capR else cp x), ⟨ks.size, put1 ks.c 3 v', ks.ty⟩,
        { g := gs4, s := ss, c0 := hS.c0, c1 := hS.c1, c2 := hS.c2, rows := hrows, row := fun j hj => ?_, qc := fun j hj => ?_, d1 := fun q => hb's q.symm, d2 := fun j hj => ?_, d3 := fun j j2 hj hj2 he => ?_ }, hb'n, by omega, fun j hj => ?_, fun q => by omega, fun x hx => by rw [l5 x (by omega) (by omega) (by omega)]; exact hlow x hx, fun x hx => ?_⟩
      · (try dsimp only)
        by_cases e : j = i
        · rw [if_pos e]
          refine ⟨kR, gR, by omega, fun x hx => ?_⟩
          rw [e]
          unfold zc
          by_cases e2 : x < 8
          · rw [if_pos e2]; exact cR x e2
          · obtain rfl : x = 8 := by omega
            rw [if_neg e2]; exact cR8
        · obtain ⟨kj, gj, sj, cj⟩ := hS.row j (by omega)
          rw [if_neg e]
          exact ⟨kj, by rw [l5 _ (hbkn j (by omega)) (hS.d2 j (by omega)).1 (hbb j (by omega))]; exact gj, sj, cj⟩
      · (try dsimp only)
        by_cases e : j = i
        · rw [if_pos e, if_pos rfl]; omega
        · have h2 := hbkn j (by omega)
          have h3 := hS.qc j (by omega)
          rw [if_neg e, if_neg (by omega)]; exact h3
      · (try dsimp only)
        by_cases e : j = i
        · rw [if_pos e]; exact ⟨hRs, fun q => hb'R q.symm⟩
        · rw [if_neg e]; exact ⟨(hS.d2 j (by omega)).1, hbb j (by omega)⟩
      · (try dsimp only at he)
        by_cases e : j = i
        · by_cases e2 : j2 = i
          · omega
          · have h2 := hbkn j2 (by omega)
            rw [if_pos e, if_neg e2] at he; omega
        · have h1 := hbkn j (by omega)
          by_cases e2 : j2 = i
          · rw [if_neg e, if_pos e2] at he; omega
          · rw [if_neg e, if_neg e2] at he; exact hS.d3 j j2 (by omega) (by omega) he
      · (try dsimp only)
        by_cases e : j = i
        · rw [if_pos e]; omega
        · rw [if_neg e]; exact hbk j (by omega)
      · cases qq : H4.get x with
        | none => rfl
        | some k => have := hlt4 x k qq; omega
    · skip
      refine OFT.seg rfl (by intro q; cases q) (ST.bsl hEX rfl ?_)
      intro b2 hb2 hf2
      obtain ⟨HZ, hHZ⟩ : ∃ HZ : Hp, HZ = (b2, ⟨1 * 1, put1 (fun i => Zs.c [(1, SV.int .u8 0)] (i % 1)) 0 (.int .u8 0), 5⟩) :: HX := ⟨_, rfl⟩
      have lZ : ∀ x, x < n2 + 1 → HZ.get x = HX.get x := fun x hx => by rw [hHZ, Hp.get_ne _ _ (by omega)]
      refine OFT.hp hHZ.symm ?_
      refine OFT.seg rfl (by intro q; cases q) (ST.call (R := fun r H' => ∃ b' cap' k' nC, r = .s (.slc b' 0 8 cap') ∧ H'.get b' = some k' ∧ cap' ≤ k'.size ∧ 8 ≤ cap' ∧ (∀ x, x < 8 → k'.c x = .int .u8 (A i x)) ∧ b2 < nC ∧ nC ≤ b' ∧ ∀ x, x < nC → H'.get x = HZ.get x) rfl (fun n' hn' hfx => (slices_CloneB (A i) n2 _ _ _ (by rw [lZ n2 (by omega), hHX]; exact Hp.get_eq _ _ _) rfl (fun x hx => rfl)).mono (fun r H' n'' hn'' ⟨b', cap', k', q1, q2, q3, q4, q5, q6, q7, q8, q9⟩ => ⟨⟨b', cap', k', n', q1, q2, q3, q4, q5, getlt hfx (by rw [hHZ]; exact Hp.get_eq _ _ _), q6, q9⟩, Ext.one (by rw [q9 n (by omega), lZ n (by omega)]; exact gsX)⟩)) ?_)
      rintro r HY ⟨bC, capC, kC, nC, rfl, gC, sC, hC8, cC, hnC, hbC, lC⟩ hEC
      have g2 : HY.get b2 = some ⟨1 * 1, put1 (fun i => Zs.c [(1, SV.int .u8 0)] (i % 1)) 0 (.int .u8 0), 5⟩ := by rw [lC b2 hnC, hHZ]; exact Hp.get_eq _ _ _
      have lY : ∀ x, x < n2 + 1 → HY.get x = HX.get x := fun x hx => by rw [lC x (by omega), lZ x hx]
      have hrC : rb ≠ bC := by omega
      have gsY : Ext [(n, ks)] HY := Ext.one (by rw [lY n (by omega)]; exact gsX)
      refine red_tail (i := i) (sb := n) (bC := bC) (capC := capC) (kC := kC) (ks := ks) (w := A i) (F := [(n, ks)]) (G := fun k => .slc (bk k) 0 (8 + 1) (cp (bk k))) (rb := rb) (v3 := ks.c 3) rfl rfl rfl rfl rfl rfl rfl rfl rfl rfl gsY gC sC hC8 cC g2 rfl rfl ?_ (by omega) (by omega) (by omega) (hrC) ss ?_
      · rcases hS.rows with q | ⟨o3, c3, k3, q1, q2, q3⟩
        · exact .inl q
        · exact .inr ⟨o3, c3, k3, q1, by rw [lY rb (by have := getlt hfr q2; omega), hHX, Hp.get_ne _ _ (by have := getlt hfr q2; omega)]; exact q2, q3⟩
      intro v' b' b28 bR capR kR H4 hR9 gR sR cR cR8 hbR hV' hb' hb'R hRs hb's gs4 l4
      intro n4 hn4 hlt4
      have hRn : n2 + 1 ≤ bR := by rcases hbR with q | ⟨q, _⟩ <;> omega
      have hb'n : n < b' := by rcases hb' with ⟨q, _⟩ | ⟨q, _⟩ <;> omega
      have l5 : ∀ x, x < n2 → x ≠ n → x ≠ b' → H4.get x = H1.get x := fun x q1 q2 q3 => by
        rw [l4 x (by omega) q2 (by omega) q3, lY x (by omega), hHX, Hp.get_ne _ _ (by omega)]
      have hbb : ∀ j, j < i → bk j ≠ b' := fun j hj => by
        have h1 := (hS.d2 j hj).2
        have h2 := hbkn j hj
        rcases hb' with ⟨q, _⟩ | ⟨q, _⟩ <;> omega
      have hb'4 : b' < n4 := by
        rcases hV' with ⟨_, q⟩ | ⟨o3, c3, k3, _, q, _⟩
        · omega
        · exact hlt4 b' k3 q
      have hrows : SL H4 (put1 ks.c 3 v' 3) (i + 1) (fun k => .slc (if k = i then bR else bk k) 0 (8 + 1) (if (if k = i then bR else bk k) = bR then capR else cp (if k = i then bR else bk k))) b' := by
        have e0 : put1 ks.c 3 v' 3 = v' := by simp [put1]
        rw [e0]
        refine hV'.same (fun k hk => ?_)
        unfold snS
        (try dsimp only)
        by_cases e : k = i
        · rw [if_pos e, if_pos e, if_pos rfl]
        · have h2 := hbkn k (by omega)
          rw [if_neg e, if_neg e, if_neg (by omega)]
      (refine zG ?_)
      refine ⟨by omega, by (repeat first | exact trivial | refine And.intro rfl ?_), H4, Drops.refl _ _, b', (fun k => if k = i then bR else bk k), (fun x => if x = bR then capR else cp x), ⟨ks.size, put1 ks.c 3 v', ks.ty⟩,
        { g := gs4, s := ss, c0 := hS.c0, c1 := hS.c1, c2 := hS.c2, rows := hrows, row := fun j hj => ?_, qc := fun j hj => ?_, d1 := fun q => hb's q.symm, d2 := fun j hj => ?_, d3 := fun j j2 hj hj2 he => ?_ }, hb'n, by omega, fun j hj => ?_, fun q => by omega, fun x hx => by rw [l5 x (by omega) (by omega) (by omega)]; exact hlow x hx, fun x hx => ?_⟩
      · (try dsimp only)
        by_cases e : j = i
        · rw [if_pos e]
          refine ⟨kR, gR, by omega, fun x hx => ?_⟩
          rw [e]
          unfold zc
          by_cases e2 : x < 8
          · rw [if_pos e2]; exact cR x e2
          · obtain rfl : x = 8 := by omega
            rw [if_neg e2]; exact cR8
        · obtain ⟨kj, gj, sj, cj⟩ := hS.row j (by omega)
          rw [if_neg e]
          exact ⟨kj, by rw [l5 _ (hbkn j (by omega)) (hS.d2 j (by omega)).1 (hbb j (by omega))]; exact gj, sj, cj⟩
      · (try dsimp only)
        by_cases e : j = i
        · rw [if_pos e, if_pos rfl]; omega
        · have h2 := hbkn j (by omega)
          have h3 := hS.qc j (by omega)
          rw [if_neg e, if_neg (by omega)]; exact h3
      · (try dsimp only)
        by_cases e : j = i
        · rw [if_pos e]; exact ⟨hRs, fun q => hb'R q.symm⟩
        · rw [if_neg e]; exact ⟨(hS.d2 j (by omega)).1, hbb j (by omega)⟩
      · (try dsimp only at he)
        by_cases e : j = i
        · by_cases e2 : j2 = i
          · omega
          · have h2 := hbkn j2 (by omega)
            rw [if_pos e, if_neg e2] at he; omega
        · have h1 := hbkn j (by omega)
          by_cases e2 : j2 = i
          · rw [if_neg e, if_pos e2] at he; omega
          · rw [if_neg e, if_neg e2] at he; exact hS.d3 j j2 (by omega) (by omega) he
      · (try dsimp only)
        by_cases e : j = i
        · rw [if_pos e]; omega
        · rw [if_neg e]; exact hbk j (by omega)
      · cases qq : H4.get x with
        | none => rfl
        | some k => have := hlt4 x k qq; omega
  · obtain rfl : m = i := by omega
    (refine zG ?_)
    refine RS.call rfl ((solve_red p m (zc 8 A) n rb bk cp ks _ _ hp (by omega) hS hnil (fun k x hk hx => by
      unfold zc
      by_cases e : x < 8
      · rw [if_pos e]; exact hA k hk x e
      · rw [if_neg e]; omega)).mono ?_)
    rintro r H3 n3 hn3 ⟨R, P, d, bk', ks', hdm, hRR, hsm, hS3, hfr3, hlow3⟩
    have hsm2 : same p (zc 8 R) d A m := same_trans hsm (same_congr (fun k x hk hx => by unfold zc; rw [if_pos hx, if_pos hx]))
    have hd8 := hRR.d8
    have gs3 := hS3.g
    have ss3 := hS3.s
    have h3n := getlt hfr3 gs3
    have hl3 : ∀ x, x < n → H3.get x = H.get x := fun x hx => by rw [hlow3 x (by omega) (by omega) (by omega) (fun k hk => by have := hbk k hk; omega)]; exact hlow x hx
    rcases hS3.rows with ⟨r3, rfl⟩ | ⟨ro, rcap, rk, r3, rg, rs, rm, rc⟩
    · have r3' : ks'.c (0 + 3) = .nils := r3
      (refine zG ?_)
      refine CS.iter 0 (fun i => [(41, i64 (i : Nat)), (40, i64 0), (8, .s (.slc n3 0 0 0))]) (fun _ => (n3, ⟨0 * 8, fun i => Zs.c [(8, SV.int .u8 0)] (i % 8), 32⟩) :: H3) (fun _ => True) (by (repeat first | exact trivial | refine And.intro rfl ?_)) (Drops.refl _ _) trivial ?_
      intro i n4 hi4 hn4 _
      obtain rfl : i = 0 := by omega
      (refine zG ?_)
      exact ⟨.s (.slc n3 0 0 0), _, rfl, Drops.refl _ _, _, zc 8 R, 0, P, n3, rfl, ⟨0, 0, _, rfl, Hp.get_eq _ _ _, by simp, Nat.le_refl _, fun i x hi => by omega⟩, hRR, hsm2, by omega, by omega, fun x hx => by rw [Hp.get_ne _ _ (by omega)]; exact hfr3 x (by omega), fun x hx => by rw [Hp.get_ne _ _ (by omega)]; exact hl3 x hx⟩
    · have r3' : ks'.c (0 + 3) = .slc rb ro d rcap := r3
      have hrb3 := getlt hfr3 rg
      (refine zG ?_)
      refine CS.weak (e1 := [(41, i64 ((0 : Nat) : Int)), (40, i64 (d : Nat)), (39, .s (.slc rb ro d rcap)), (8, .s (.slc n3 0 0 0))]) (by (repeat first | exact trivial | refine And.intro rfl ?_)) (Drops.refl _ _) ?_
      refine CS.loop (fun k e H1 n1 => ∃ i v8 b8, i ≤ d ∧ k = d - i ∧ e = [(41, i64 (i : Nat)), (40, i64 (d : Nat)), (39, .s (.slc rb ro d rcap)), (8, .s v8)] ∧ VL H1 v8 i (zc 8 R) b8 ∧ n3 ≤ b8 ∧ b8 < n1 ∧ (∀ x, x < n3 → H1.get x = H3.get x) ∧ ∀ x, n1 ≤ x → H1.get x = none) d ?_ ?_
      · exact ⟨0, _, n3, by omega, rfl, rfl, ⟨0, 0, _, rfl, Hp.get_eq _ _ _, by simp, Nat.le_refl _, fun i x hi => by omega⟩, by omega, by omega, fun x hx => Hp.get_ne _ _ (by omega), fun x hx => by rw [Hp.get_ne _ _ (by omega)]; exact hfr3 x (by omega)⟩
      rintro k e H4 n4 hn4 ⟨i, v8, b8, hi8, rfl, rfl, hV8, hb8, hb8n, hl4, hfr4⟩
      have rg4 : H4.get rb = some rk := by rw [hl4 rb hrb3]; exact rg
      (refine zG ?_)
      refine zI ?_ ?_<;>intro h5
      · have hi' : i < d := by omega
        have rc1 : rk.c (ro + i * 1) = .slc (bk' i) 0 (8 + 1) (cp (bk' i)) := by rw [Nat.mul_one]; exact rc i hi'
        obtain ⟨ki, gi, si, ci⟩ := hS3.row i hi'
        have hqc := hS3.qc i hi'
        have hbi3 := getlt hfr3 gi
        have gi4 : H4.get (bk' i) = some ki := by rw [hl4 _ hbi3]; exact gi
        have ci8 : ∀ x, x < 8 → ki.c (0 + x) = .int .u8 (R i x) := fun x hx => by rw [Nat.zero_add]; exact ci x (by omega)
        (refine zG ?_)
        refine RS.slsTo (j := 8) (by exact rfl) (by exact rfl) rfl (by omega) ?_
        (repeat first|refine zG ?_|(refine LS.nilO ?_;intro nq hnq hltq;try refine zU ?_)|(refine MS.new ?_;intro bq hbq hbqf;try refine zU ?_)|(refine MS.nil ?_;intro nq hnq hltq;have hlq:=hltq _ _ (Hp.get_eq _ _ _);clear hltq;try refine zU ?_)|(refine LS.nilQ ?_;try with_reducible intro nq hnq;try refine zU ?_))
        refine RS.s2a (by exact rfl) (by omega) ?_
        (refine zG ?_)
        refine RS.appV (w := R i) (by exact rfl) (by exact rfl) (hV8.keep (Hp.get_ne _ _ (by omega))) (Hp.get_eq _ _ _) rfl (fun q hq => by (try dsimp only); unfold splice; rw [if_pos (by omega), Nat.sub_zero]; rfl) (by omega) (by rw [Hp.get_ne _ _ (by omega)]; exact hfr4 _ (by omega)) (by omega) ?_
        intro vB bB HB nB hVB0 hbB hltB hnB hnB' hgB
        have hVB : VL HB vB (i + 1) (zc 8 R) bB := hVB0.same (fun k x hk hx => by
          unfold snc
          by_cases e : k = i
          · rw [if_pos e, e]; unfold zc; rw [if_pos hx]
          · rw [if_neg e])
        (refine zG ?_)
        refine ⟨d - (i + 1), [(41, i64 ((i + 1 : Nat) : Int)), (40, i64 (d : Nat)), (39, .s (.slc rb ro d rcap)), (8, .s vB)], HB, by omega, by (repeat first | exact trivial | refine And.intro rfl ?_), Drops.refl _ _, i + 1, vB, bB, by omega, rfl, rfl, hVB, by omega, hltB, fun x hx => by rw [hgB x (by omega), Hp.get_ne _ _ (by omega)]; exact hl4 x hx, fun x hx => by rw [hgB x (by omega), Hp.get_ne _ _ (by omega)]; exact hfr4 x (by omega)⟩
      · obtain rfl : d = i := by omega
        (refine zG ?_)
        exact ⟨.s v8, H4, rfl, Drops.refl _ _, v8, zc 8 R, d, P, b8, rfl, hV8, hRR, hsm2, by omega, by omega, fun x hx => hfr4 x (by omega), fun x hx => by rw [hl4 x (by omega)]; exact hl3 x hx⟩

end Go.Proofs.YtideblodkkgodaaGreat

/- Kernels, the program's: the vectors for the free places. -/

namespace Go.V

variable [BW]

set_option linter.unusedSimpArgs false

set_option linter.unusedVariables false

/-- A fact that no search takes for a content. -/
structure Bw (Q : Prop) : Prop where
  h : Q

section

variable {P : Program} {N m : Nat} {e : Env} {H : Hp} {n : Nat} {l : List Ins} {d : Option Nat} {D : Md}

end

end Go.V

namespace Go.Proofs.YtideblodkkgodaaGreat

open Go.V

variable [BW]

set_option linter.unusedSimpArgs false

set_option linter.unusedVariables false

set_option maxHeartbeats 4000000

end Go.Proofs.YtideblodkkgodaaGreat

/- Two lists of invariants are the same; lists of vectors compared, marked and held. -/

namespace Go.V

set_option linter.unusedSimpArgs false

set_option linter.unusedVariables false

end Go.V

namespace Go.Proofs.YtideblodkkgodaaGreat

open Go.V

variable [BW]

set_option linter.unusedSimpArgs false

set_option linter.unusedVariables false

set_option maxHeartbeats 4000000

/-- laws.eqVectorS -/
def ir9 : Cd := (.seq (.reg [⟨some 4,none,.mov (.c (.bool false))⟩]) (.seq (.seq (.reg [⟨some 6,none,.mov (.t 0)⟩,⟨some 7,none,.len (.t 6)⟩,⟨some 8,none,.mov (.t 1)⟩,⟨some 9,none,.len (.t 8)⟩,⟨some 10,none,.bin .neq (.t 7) (.t 9)⟩]) (.cond (.t 10) (.seq (.reg [⟨some 4,none,.mov (.c (.bool false))⟩]) .ret) .skip)) (.seq (.seq (.reg [⟨some 5,none,.mov (.c (.int .i64 0))⟩]) (.block 0 (.loop (.seq (.seq (.reg [⟨some 11,none,.mov (.t 5)⟩,⟨some 12,none,.mov (.t 0)⟩,⟨some 13,none,.len (.t 12)⟩,⟨some 14,none,.bin .lss (.t 11) (.t 13)⟩]) (.cond (.t 14) .skip (.exit 0))) (.seq (.block 1 (.seq (.drw true [8] [⟨some 17,none,.mov (.t 0)⟩,⟨some 18,none,.mov (.t 5)⟩,⟨some 19,none,.isl 8 (.t 17) (.t 18)⟩,⟨some 20,none,.ld (some 8) (.t 19)⟩,⟨some 21,none,.mov (.t 1)⟩,⟨some 22,none,.mov (.t 5)⟩,⟨some 23,none,.isl 8 (.t 21) (.t 22)⟩,⟨some 24,none,.ld (some 8) (.t 23)⟩,⟨some 25,none,.call 34 [(.t 20),(.t 24)]⟩,⟨some 26,none,.un .not (.t 25)⟩]) (.cond (.t 26) (.seq (.reg [⟨some 4,none,.mov (.c (.bool false))⟩]) .ret) .skip))) (.reg [⟨some 15,none,.mov (.t 5)⟩,⟨some 16,none,.bin .add (.t 15) (.c (.int .i64 1))⟩,⟨some 5,none,.mov (.t 16)⟩])))))) (.seq (.reg [⟨some 4,none,.mov (.c (.bool true))⟩]) .ret))))

set_option maxRecDepth 100000 in
theorem tr9 : trFn Tryz.prog Tryz.f9 = some (27, ir9, [.tmp 4]) := by kernel_rfl

theorem laws_eqVectorS (m b b' : Nat) (I I' : Nat → Nat → Int) (v w : SV) (H : Hp) (n : Nat) (hm : m ≤ 4000000) (hV : VL H v m I b) (hW : VL H w m I' b') (he : ∀ i x, i < m → x < 8 → I i x = I' i x) :
    FnS Tryz.prog 9 [.s v, .s w] H n (fun r H' _ => r = bl true ∧ H' = H) := by
  obtain ⟨o, cap, K, rfl, gb, ho, hmc, hc⟩ := hV
  obtain ⟨o', cap', K', rfl, gb', ho', hmc', hc'⟩ := hW
  refine FnS.of_body Tryz.func9 tr9 (by simp) (fun hf => ?_)
  dsimp only [argEnv]
  unfold ir9
  have hbn := getlt hf gb
  have hbn' := getlt hf gb'
  (refine zG ?_)
  refine zI ?_ ?_<;>intro h0
  · omega
  (refine zG ?_)
  refine CS.iter m (fun i => [(5, i64 (i : Nat)), (0, .s (.slc b o m cap)), (1, .s (.slc b' o' m cap'))]) (fun _ => H) (fun _ => True) (by (repeat first | exact trivial | refine And.intro rfl ?_)) (Drops.refl _ _) trivial ?_
  intro i n1 hi hn _
  (refine zG ?_)
  refine zI ?_ ?_<;>intro h1
  · have hi' : i < m := by omega
    have e9 : ∀ q, q < 8 → K.c (o + i * 8 + q) = .int .u8 (I i q) := fun q hq => by rw [Nat.add_assoc]; exact hc i q hi' hq
    have e10 : ∀ q, q < 8 → K'.c (o' + i * 8 + q) = .int .u8 (I' i q) := fun q hq => by rw [Nat.add_assoc]; exact hc' i q hi' hq
    (repeat first|refine zG ?_|(refine LS.nilQ ?_;try with_reducible intro nq hnq;try refine zU ?_))
    refine RS.call rfl ((laws_eqVector (I i) (I' i) _ _).mono ?_)
    rintro r H n2 hn2 ⟨rfl, rfl⟩
    rw [tb_true (fun q hq => he i q hi' hq)]
    (refine zG ?_)
    refine ⟨by omega, by (repeat first | exact trivial | refine And.intro rfl ?_), Drops.refl _ _, trivial⟩
  · obtain rfl : m = i := by omega
    (refine zG ?_)
    exact ⟨_, H, rfl, by exact zD, rfl, rfl⟩

theorem laws_eqVectorS0 (H : Hp) (n : Nat) : FnS Tryz.prog 9 [.s .nils, .s .nils] H n (fun r H' _ => r = bl true ∧ H' = H) := by
  refine FnS.of_body Tryz.func9 tr9 (by simp) (fun hf => ?_)
  dsimp only [argEnv]
  unfold ir9
  (refine zG ?_)
  refine CS.iter 0 (fun i => [(5, i64 (i : Nat)), (0, .s .nils), (1, .s .nils)]) (fun _ => H) (fun _ => True) (by (repeat first | exact trivial | refine And.intro rfl ?_)) (Drops.refl _ _) trivial ?_
  intro i n1 hi hn _
  obtain rfl : i = 0 := by omega
  (refine zG ?_)
  exact ⟨_, H, rfl, by exact zD, rfl, rfl⟩

/-- laws.markVectorS -/
def ir11 : Cd := (.seq (.reg [⟨some 4,none,.mov (.c (.int .i64 0))⟩]) (.seq (.seq (.reg [⟨some 5,none,.mov (.c (.int .i64 0))⟩]) (.block 0 (.loop (.seq (.seq (.reg [⟨some 7,none,.mov (.t 5)⟩,⟨some 8,none,.mov (.t 0)⟩,⟨some 9,none,.len (.t 8)⟩,⟨some 10,none,.bin .lss (.t 7) (.t 9)⟩]) (.cond (.t 10) .skip (.exit 0))) (.seq (.block 1 (.seq (.reg [⟨some 6,none,.mov (.c (.int .i64 0))⟩]) (.block 2 (.loop (.seq (.seq (.reg [⟨some 13,none,.mov (.t 6)⟩,⟨some 14,none,.bin .lss (.t 13) (.c (.int .i64 8))⟩]) (.cond (.t 14) .skip (.exit 2))) (.seq (.block 3 (.seq (.reg [⟨some 17,none,.mov (.t 0)⟩,⟨some 18,none,.mov (.t 5)⟩,⟨some 19,none,.mov (.t 6)⟩,⟨some 20,none,.mov (.t 1)⟩,⟨some 21,none,.cv .u8 (.t 20)⟩,⟨some 22,none,.isl 8 (.t 17) (.t 18)⟩,⟨some 23,none,.ia 8 1 (.t 22) (.t 19)⟩,⟨none,none,.st 1 (.t 23) (.t 21)⟩]) (.reg [⟨some 24,none,.mov (.t 1)⟩,⟨some 25,none,.bin .add (.t 24) (.c (.int .i64 1))⟩,⟨some 1,none,.mov (.t 25)⟩]))) (.reg [⟨some 15,none,.mov (.t 6)⟩,⟨some 16,none,.bin .add (.t 15) (.c (.int .i64 1))⟩,⟨some 6,none,.mov (.t 16)⟩]))))))) (.reg [⟨some 11,none,.mov (.t 5)⟩,⟨some 12,none,.bin .add (.t 11) (.c (.int .i64 1))⟩,⟨some 5,none,.mov (.t 12)⟩])))))) (.seq (.reg [⟨some 26,none,.mov (.t 1)⟩,⟨some 4,none,.mov (.t 26)⟩]) .ret)))

set_option maxRecDepth 100000 in
theorem tr11 : trFn Tryz.prog Tryz.f11 = some (27, ir11, [.tmp 4]) := by kernel_rfl

/-- What marks leave. -/
theorem laws_markVectorS (m b : Nat) (I : Nat → Nat → Int) (v : SV) (H : Hp) (n : Nat) (hm : m ≤ 8) (hV : VL H v m I b) :
    FnS Tryz.prog 11 [.s v, i64 101] H n (fun r H' _ => r = i64 ((101 + 8 * m : Nat) : Int) ∧ VL H' v m (fun i x => ((101 + 8 * i + x : Nat) : Int)) b ∧ ∀ x, x ≠ b → H'.get x = H.get x) := by
  obtain ⟨o, cap, K, rfl, gb, ho, hmc, hc⟩ := hV
  refine FnS.of_body Tryz.func11 tr11 (by simp) (fun hf => ?_)
  dsimp only [argEnv]
  unfold ir11
  have hbn := getlt hf gb
  (refine zG ?_)
  refine CS.iterJ m (fun i => [(5, i64 (i : Nat)), (0, .s (.slc b o m cap)), (1, i64 ((101 + 8 * i : Nat) : Int))])
    (fun i H1 _ => ∃ K1, H1.get b = some K1 ∧ K1.size = K.size ∧ (∀ j x, j < i → x < 8 → K1.c (o + (j * 8 + x)) = .int .u8 ((101 + 8 * j + x : Nat) : Int)) ∧ ∀ x, x ≠ b → H1.get x = H.get x) (by (repeat first | exact trivial | refine And.intro rfl ?_)) ⟨K, gb, rfl, fun j x hj => by omega, fun x _ => rfl⟩ ?_
  rintro i n1 H1 hi hn1 ⟨K1, g1, s1, c1, l1⟩
  (refine zG ?_)
  refine zI ?_ ?_<;>intro h1
  · have hi' : i < m := by omega
    (refine zG ?_)
    refine CS.iterJ 8 (fun j => [(6, i64 (j : Nat)), (5, i64 (i : Nat)), (0, .s (.slc b o m cap)), (1, i64 ((101 + 8 * i + j : Nat) : Int))])
      (fun j H1 _ => ∃ K1, H1.get b = some K1 ∧ K1.size = K.size ∧ (∀ k x, k < i → x < 8 → K1.c (o + (k * 8 + x)) = .int .u8 ((101 + 8 * k + x : Nat) : Int)) ∧ (∀ x, x < j → K1.c (o + (i * 8 + x)) = .int .u8 ((101 + 8 * i + x : Nat) : Int)) ∧ ∀ x, x ≠ b → H1.get x = H.get x) (by (repeat first | exact trivial | refine And.intro rfl ?_)) ⟨K1, g1, s1, c1, fun x hx => by omega, l1⟩ ?_
    clear g1 s1 c1 l1
    rintro j n2 H2 hj hn2 ⟨K2, g2, s2, c2, d2, l2⟩
    (refine zG ?_)
    refine zI ?_ ?_<;>intro h2
    · have hj' : j < 8 := by omega
      (refine zG ?_)
      refine ⟨by omega, by (repeat first | exact trivial | refine And.intro rfl ?_), _, Drops.refl _ _, ⟨K2.size, put1 K2.c (o + (i * 8 + j)) (.int .u8 ((101 + 8 * i + j : Nat) : Int)), K2.ty⟩, Hp.get_set_self _ g2, s2, fun k x hk hx => ?_, fun x hx => ?_, fun x hx => by rw [Hp.get_set_other _ (fun q => hx q.symm)]; exact l2 x hx⟩
      · (try dsimp only)
        unfold put1
        rw [if_neg (by omega)]; exact c2 k x hk hx
      · (try dsimp only)
        unfold put1
        by_cases e : x = j
        · rw [if_pos (by omega), e]
        · rw [if_neg (by omega)]; exact d2 x (by omega)
    · obtain rfl : j = 8 := by omega
      (refine zG ?_)
      refine ⟨by omega, by (repeat first | exact trivial | refine And.intro rfl ?_), H2, Drops.refl _ _, K2, g2, s2, fun k x hk hx => ?_, l2⟩
      by_cases e : k = i
      · rw [e]; exact d2 x hx
      · exact c2 k x (by omega) hx
  · obtain rfl : m = i := by omega
    (refine zG ?_)
    exact ⟨_, H1, rfl, Drops.refl _ _, rfl, ⟨o, cap, K1, rfl, g1, by rw [s1]; exact ho, hmc, fun i x hi hx => c1 i x hi hx⟩, l1⟩

/-- laws.heldVectorS -/
def ir12 : Cd := (.seq (.reg [⟨some 4,none,.mov (.c (.int .i64 0))⟩]) (.seq (.seq (.reg [⟨some 5,none,.mov (.c (.int .i64 0))⟩]) (.block 0 (.loop (.seq (.seq (.reg [⟨some 7,none,.mov (.t 5)⟩,⟨some 8,none,.mov (.t 0)⟩,⟨some 9,none,.len (.t 8)⟩,⟨some 10,none,.bin .lss (.t 7) (.t 9)⟩]) (.cond (.t 10) .skip (.exit 0))) (.seq (.block 1 (.seq (.reg [⟨some 6,none,.mov (.c (.int .i64 0))⟩]) (.block 2 (.loop (.seq (.seq (.reg [⟨some 13,none,.mov (.t 6)⟩,⟨some 14,none,.bin .lss (.t 13) (.c (.int .i64 8))⟩]) (.cond (.t 14) .skip (.exit 2))) (.seq (.block 3 (.seq (.seq (.reg [⟨some 17,none,.mov (.t 0)⟩,⟨some 18,none,.mov (.t 5)⟩,⟨some 19,none,.mov (.t 6)⟩,⟨some 20,none,.isl 8 (.t 17) (.t 18)⟩,⟨some 21,none,.ia 8 1 (.t 20) (.t 19)⟩,⟨some 22,none,.ld none (.t 21)⟩,⟨some 23,none,.mov (.t 1)⟩,⟨some 24,none,.cv .u8 (.t 23)⟩,⟨some 25,none,.bin .neq (.t 22) (.t 24)⟩]) (.cond (.t 25) (.seq (.reg [⟨some 4,none,.mov (.c (.int .i64 (-1)))⟩]) .ret) .skip)) (.reg [⟨some 26,none,.mov (.t 1)⟩,⟨some 27,none,.bin .add (.t 26) (.c (.int .i64 1))⟩,⟨some 1,none,.mov (.t 27)⟩]))) (.reg [⟨some 15,none,.mov (.t 6)⟩,⟨some 16,none,.bin .add (.t 15) (.c (.int .i64 1))⟩,⟨some 6,none,.mov (.t 16)⟩]))))))) (.reg [⟨some 11,none,.mov (.t 5)⟩,⟨some 12,none,.bin .add (.t 11) (.c (.int .i64 1))⟩,⟨some 5,none,.mov (.t 12)⟩])))))) (.seq (.reg [⟨some 28,none,.mov (.t 1)⟩,⟨some 4,none,.mov (.t 28)⟩]) .ret)))

set_option maxRecDepth 100000 in
theorem tr12 : trFn Tryz.prog Tryz.f12 = some (29, ir12, [.tmp 4]) := by kernel_rfl

theorem laws_heldVectorS (m b : Nat) (v : SV) (H : Hp) (n : Nat) (hm : m ≤ 8) (hV : VL H v m (fun i x => ((101 + 8 * i + x : Nat) : Int)) b) :
    FnS Tryz.prog 12 [.s v, i64 101] H n (fun r H' _ => r = i64 ((101 + 8 * m : Nat) : Int) ∧ H' = H) := by
  obtain ⟨o, cap, K, rfl, gb, ho, hmc, hc⟩ := hV
  refine FnS.of_body Tryz.func12 tr12 (by simp) (fun hf => ?_)
  dsimp only [argEnv]
  unfold ir12
  have hbn := getlt hf gb
  (refine zG ?_)
  refine CS.iter m (fun i => [(5, i64 (i : Nat)), (0, .s (.slc b o m cap)), (1, i64 ((101 + 8 * i : Nat) : Int))]) (fun _ => H) (fun _ => True) (by (repeat first | exact trivial | refine And.intro rfl ?_)) (Drops.refl _ _) trivial ?_
  intro i n1 hi hn1 _
  (refine zG ?_)
  refine zI ?_ ?_<;>intro h1
  · have hi' : i < m := by omega
    (refine zG ?_)
    refine CS.iter 8 (fun j => [(6, i64 (j : Nat)), (5, i64 (i : Nat)), (0, .s (.slc b o m cap)), (1, i64 ((101 + 8 * i + j : Nat) : Int))]) (fun _ => H) (fun _ => True) (by (repeat first | exact trivial | refine And.intro rfl ?_)) (Drops.refl _ _) trivial ?_
    intro j n2 hj hn2 _
    (refine zG ?_)
    refine zI ?_ ?_<;>intro h2
    · have hj' : j < 8 := by omega
      have e9 : K.c (o + (i * 8 + j)) = .int .u8 ((101 + 8 * i + j : Nat) : Int) := hc i j hi' hj'
      (refine zG ?_)
      refine zI ?_ ?_<;>intro h3
      · omega
      · (refine zG ?_)
        exact ⟨by omega, by (repeat first | exact trivial | refine And.intro rfl ?_), Drops.refl _ _, trivial⟩
    · obtain rfl : j = 8 := by omega
      (refine zG ?_)
      exact ⟨by omega, by (repeat first | exact trivial | refine And.intro rfl ?_), Drops.refl _ _, trivial⟩
  · obtain rfl : m = i := by omega
    (refine zG ?_)
    exact ⟨_, H, rfl, by exact zD, rfl, rfl⟩

end Go.Proofs.YtideblodkkgodaaGreat
