/- Algebras that seldom are none, vectors for them (printed by g115.py). -/
import Derived.Test.YtgnphaopeplfbaaGreatDoorJau
import Derived.Test.YtgnphaopeplfbaaGreatDoorJar
set_option linter.unusedSectionVars false
set_option linter.unusedVariables false
set_option linter.unusedSimpArgs false

namespace Go.V

variable [BW]

set_option linter.unusedSimpArgs false

set_option linter.unusedVariables false

section

variable {P : Program}

theorem ST.st1 {N m b off : Nat} {x y : X} {kb : Blk} {v : SV} {e : Env} {H F : Hp} {n : Nat} {K : Env → Hp → Prop} (hx : x.ev e = some (.s (.ptr b off))) (hy : y.ev e = some (.s v))
    (hb : H.get b = some kb) (ho : off < kb.size) (hF : F.get b = none) (hE : Ext F H) (h : K e (H.set b (put1 kb.c off v))) : ST P N m ⟨none, none, .st 1 x y⟩ e H F n K := by
  refine ⟨rfl, ?_⟩
  intro o h1 h2 h3 a Ka hag _ hK
  rw [if_pos (show isCall (I.st 1 x y) = true from rfl)]
  intro w0 w n' q1 q2 q3
  obtain ⟨dst, op, ty, pos, after, guard⟩ := o
  dsimp only at h1 h2 h3
  subst h2
  obtain ⟨t, x0, y0, rfl, hs, hx0, hy0⟩ := inv_st h1
  have e1 := trX_eval hag hx0 hx
  have e2 := trX_eval hag hy0 hy
  simp only [sizeT, Option.map_eq_some_iff] at hs
  obtain ⟨ti, hti, hz1⟩ := hs
  have hz : (sizeOf t).run P w = .ok ti.size w := by simp [sizeOf, typeInfo, hti]
  have hsz : (a.eval y0).cells.size = ti.size := by rw [e2, hz1]; simp [AV.conc, SV.cells]
  have hrun : ∃ w', (storeCells ⟨b, off, none⟩ (a.eval y0).cells.toList).run P w = .ok () w' ∧ Mem w0 (H.set b (put1 kb.c off v)) n' w' := by
    refine ⟨_, ?_, q3.setCell (x := v) hb ho⟩
    rw [e2]
    simp only [AV.conc, SV.cells]
    unfold storeCells
    rw [addr_add, Sem.run_bind, Nat.add_zero, run_store q3 hb ho]
    simp [storeCells]
  obtain ⟨w', hr1, hm1⟩ := hrun
  refine .inl ⟨undef, w', _, F, n', .inr ⟨?_, rfl⟩, Nat.le_refl _, hm1, Ext.refl _, hE.setF _ hF, rfl, hK _ _ _ h hag (hE.setF _ hF)⟩
  simp [execOp, Instr.storeAt, e1, AV.conc, SV.conc, Instr.sureAddr, storeVar, hz, hsz, hr1]

theorem ST.cv8 {N m : Nat} {d : Option Nat} {x : X} {k : IntKind} {a : Int} {e : Env} {H F : Hp} {n : Nat} {K : Env → Hp → Prop} (hx : x.ev e = some (.s (.int k a))) (hr : 0 ≤ a ∧ a ≤ 255) (h : K (putD d (.s (.int .u8 a)) e) H) : ST P N m ⟨d, none, .cv .u8 x⟩ e H F n K :=
  ST.pure (by simp only [PV, hx]; rw [IntWalk.u8_in _ hr]; exact h)

end

end Go.V

namespace Go.Proofs.YtgnphaopeplfbaaGreatDoor

open Go.V

variable [BW]

set_option linter.unusedSimpArgs false

set_option linter.unusedVariables false

set_option maxHeartbeats 4000000

/-- spec.l01Bad -/
def ir55 : Cd := (.seq (.reg [⟨some 3,none,.box 31 (.t 1)⟩,⟨some 4,none,.new 31 [(2,(.int .i64 0)),(520,(.int .u8 0))]⟩]) (.seq (.seq (.reg [⟨some 5,none,.mov (.t 0)⟩,⟨some 6,none,.call 45 [(.t 5),(.c (.int .i64 40))]⟩]) (.block 0 (.seq (.reg [⟨some 8,none,.bin .eql (.t 6) (.c (.int .i64 0))⟩,⟨some 7,none,.mov (.t 8)⟩]) (.cond (.t 7) (.reg [⟨some 9,none,.mov (.t 0)⟩,⟨some 10,none,.bsl 2 6 1 [(1,(.int .i64 0))] [(0,1,(.c (.int .i64 0))),(1,1,(.c (.int .i64 1))),(2,1,(.c (.int .i64 4))),(3,1,(.c (.int .i64 9))),(4,1,(.c (.int .i64 37))),(5,1,(.c (.int .i64 (-5))))]⟩,⟨some 11,none,.call 44 [(.t 9),(.t 10)]⟩,⟨some 12,none,.fa 0 (.t 3)⟩,⟨none,none,.st 1 (.t 12) (.t 11)⟩]) (.seq (.reg [⟨some 14,none,.bin .eql (.t 6) (.c (.int .i64 1))⟩,⟨some 13,none,.mov (.t 14)⟩]) (.cond (.t 13) (.reg [⟨some 15,none,.mov (.t 0)⟩,⟨some 16,none,.fa 1 (.t 3)⟩,⟨some 17,none,.ld none (.t 16)⟩,⟨some 18,none,.bin .sub (.t 17) (.c (.int .i64 1))⟩,⟨some 19,none,.bsl 2 4 1 [(1,(.int .i64 0))] [(0,1,(.c (.int .i64 0))),(1,1,(.c (.int .i64 9))),(2,1,(.c (.int .i64 (-1)))),(3,1,(.t 18))]⟩,⟨some 20,none,.call 44 [(.t 15),(.t 19)]⟩,⟨some 21,none,.fa 1 (.t 3)⟩,⟨none,none,.st 1 (.t 21) (.t 20)⟩]) (.seq (.reg [⟨some 23,none,.bin .eql (.t 6) (.c (.int .i64 2))⟩,⟨some 22,none,.mov (.t 23)⟩]) (.cond (.t 22) (.drwn (.seg 0 (.seg 2 (.seg 4 (.seg 6 (.seg 9 (.seg 1 (.seg 10 (.seg 3 (.seg 11 (.seg 5 (.seg 7 (.seg 8 (.seg 12 (.seg 13 .done)))))))))))))) [⟨some 24,none,.mov (.t 0)⟩,⟨some 25,none,.call 45 [(.t 24),(.c (.int .i64 8))]⟩,⟨some 26,none,.mov (.t 0)⟩,⟨some 27,none,.call 45 [(.t 26),(.c (.int .i64 8))]⟩,⟨some 28,none,.mov (.t 0)⟩,⟨some 29,none,.call 45 [(.t 28),(.c (.int .i64 8))]⟩,⟨some 30,none,.mov (.t 0)⟩,⟨some 31,none,.call 45 [(.t 30),(.c (.int .i64 40))]⟩,⟨some 32,none,.cv .u8 (.t 31)⟩,⟨some 33,none,.fa 10 (.t 3)⟩,⟨some 34,none,.ia 8 64 (.t 33) (.t 25)⟩,⟨some 35,none,.ia 8 8 (.t 34) (.t 27)⟩,⟨some 36,none,.ia 8 1 (.t 35) (.t 29)⟩,⟨none,none,.st 1 (.t 36) (.t 32)⟩]) (.seq (.reg [⟨some 38,none,.bin .eql (.t 6) (.c (.int .i64 3))⟩,⟨some 37,none,.mov (.t 38)⟩]) (.cond (.t 37) (.reg [⟨some 39,none,.mov (.t 0)⟩,⟨some 40,none,.call 45 [(.t 39),(.c (.int .i64 8))]⟩,⟨some 41,none,.mov (.t 0)⟩,⟨some 42,none,.call 45 [(.t 41),(.c (.int .i64 3))]⟩,⟨some 43,none,.cv .u8 (.t 42)⟩,⟨some 44,none,.fa 2 (.t 3)⟩,⟨some 45,none,.ia 8 1 (.t 44) (.t 40)⟩,⟨none,none,.st 1 (.t 45) (.t 43)⟩]) .skip)))))))))) (.seq (.reg [⟨some 46,none,.ld (some 522) (.t 3)⟩,⟨none,none,.st 522 (.t 4) (.t 46)⟩]) .ret)))

set_option maxRecDepth 100000 in
theorem tr55 : trFn Tryz.prog Tryz.f55 = some (47, ir55, [.cell (some 522) 4]) := by kernel_rfl

theorem spec_l01Bad (m0 : Nat) (sv : SV) (len : Nat) (f : Nat → Int) (b : Nat) (t : TypeId) (p s : Int) (K : Nat → SV) (H : Hp) (n : Nat) (hR : RA m0 1 sv len f) (hfb : ∀ i, i < 1 * len → 0 ≤ f i ∧ f i ≤ 255) (hlen : len ≤ 4096) (hm : ∀ x, x < m0 → H.get x = none) (hbm : m0 ≤ b) (hS : SRQ H b t sv len) (hK : ALB K p s) (hp : 2 ≤ p ∧ p ≤ 31) (hs : 1 ≤ s ∧ s ≤ 8) :
    FnS Tryz.prog 55 [ptr b 0, .arr 522 K] H n (fun r H' _ => ∃ K' p' s', r = .arr 522 K' ∧ ALB K' p' s' ∧ -100 ≤ p' ∧ p' ≤ 255 ∧ -100 ≤ s' ∧ s' ≤ 255 ∧ SRQ H' b t sv len ∧ ∀ y, y < n → y ≠ b → H'.get y = H.get y) := by
  obtain ⟨Kb, gS, -⟩ := id hS
  refine FnS.of_body Tryz.func55 tr55 (by simp) (fun hf => ?_)
  dsimp only [argEnv]
  unfold ir55
  have hbn := getlt hf gS
  (repeat first|refine zG ?_|(refine LS.nilO ?_;intro nq hnq hltq;try refine zU ?_)|(refine MS.new ?_;intro bq hbq hbqf;try refine zU ?_)|(refine MS.nil ?_;intro nq hnq hltq;have hlq:=hltq _ _ (Hp.get_eq _ _ _);clear hltq;try refine zU ?_)|(refine LS.nilQ ?_;try with_reducible intro nq hnq;try refine zU ?_))
  obtain ⟨H1, hH1⟩ : ∃ HN : Hp, HN = (n + 1, ⟨Zs.size [(2, SV.int .i64 0), (520, SV.int .u8 0)], Zs.c [(2, SV.int .i64 0), (520, SV.int .u8 0)], 31⟩) :: (n, ⟨522, K, 31⟩) :: H := ⟨_, rfl⟩
  obtain ⟨n1, hn1⟩ : ∃ x, x = n + 2 := ⟨_, rfl⟩
  have hS1 : SRQ H1 b t sv len := hS.keep (by rw [hH1]; simp (disch := omega) only [Hp.get_ne])
  have lo1 : ∀ y, y < n → y ≠ b → H1.get y = H.get y := fun y hy hyb => by rw [hH1]; simp (disch := omega) only [Hp.get_ne]
  obtain ⟨k3, hk3⟩ : ∃ k : Blk, k = ⟨522, K, 31⟩ := ⟨_, rfl⟩
  obtain ⟨k4, hk4⟩ : ∃ k : Blk, k = ⟨Zs.size [(2, SV.int .i64 0), (520, SV.int .u8 0)], Zs.c [(2, SV.int .i64 0), (520, SV.int .u8 0)], 31⟩ := ⟨_, rfl⟩
  have g1 : H1.get n = some k3 := by rw [hH1, hk3]; exact zH
  have h1 : H1.get (n + 1) = some k4 := by rw [hH1, hk4]; exact Hp.get_eq _ _ _
  have s3 : k3.size = 522 := by rw [hk3]
  have s4 : k4.size = 522 := by rw [hk4]; rfl
  have c3 : ALB k3.c p s := by rw [hk3]; exact hK
  have z1 := c3.2.1
  have z1' : k3.c (0 + 1) = .int .i64 s := z1
  rw [← hH1]
  clear hH1 hk3 hk4
  refine RS.call rfl ((spec_l01Next m0 sv len f b t 40 _ _ hR hfb hlen (fun x hx => by rw [lo1 x (by omega) (by omega)]; exact hm x hx) hbm hS1).mono ?_)
  rintro r H2 n2 hn2 ⟨x, rfl, x0, x1, -, hS2, lo2''⟩
  replace x1 := x1 (by omega)
  have lo2' : ∀ y, y < n1 → y ≠ b → H2.get y = H1.get y := fun y _ hyb => lo2'' y hyb
  have lo2 : ∀ y, y < n → y ≠ b → H2.get y = H.get y := fun y hy hyb => by rw [lo2' y (by omega) hyb]; exact lo1 y hy hyb
  have g2 : H2.get n = some k3 := by rw [lo2' n (by omega) (by omega)]; exact g1
  have h2 : H2.get (n + 1) = some k4 := by rw [lo2' (n + 1) (by omega) (by omega)]; exact h1
  (repeat first|refine zG ?_|(refine LS.nilO ?_;intro nq hnq hltq;try refine zU ?_)|(refine MS.new ?_;intro bq hbq hbqf;try refine zU ?_)|(refine MS.nil ?_;intro nq hnq hltq;have hlq:=hltq _ _ (Hp.get_eq _ _ _);clear hltq;try refine zU ?_)|(refine LS.nilQ ?_;try with_reducible intro nq hnq;try refine zU ?_))
  refine zI ?_ ?_<;>intro q0
  · (repeat first|refine zG ?_|(refine LS.nilO ?_;intro nq hnq hltq;try refine zU ?_)|(refine MS.new ?_;intro bq hbq hbqf;try refine zU ?_)|(refine MS.nil ?_;intro nq hnq hltq;have hlq:=hltq _ _ (Hp.get_eq _ _ _);clear hltq;try refine zU ?_)|(refine LS.nilQ ?_;try with_reducible intro nq hnq;try refine zU ?_))
    refine RS.call rfl ((spec_l01Pick m0 sv len f b t (fun i => ([0, 1, 4, 9, 37, -5] : List Int).getD i 2) 6 n2 _ _ _ hR hfb hlen (fun x hx => by rw [Hp.get_ne _ _ (by omega), lo2 x (by omega) (by omega)]; exact hm x hx) hbm (hS2.keep (Hp.get_ne _ _ (by omega))) (by omega) (by omega) (by omega) (by exact zH) (by simp) (fun i hi => by
      rcases (show i = 0 ∨ i = 1 ∨ i = 2 ∨ i = 3 ∨ i = 4 ∨ i = 5 by omega) with rfl | rfl | rfl | rfl | rfl | rfl <;> rfl)).mono ?_)
    rintro r H3 n3 hn3 ⟨i, hi, rfl, hS3, lo3''⟩
    have lo3' : ∀ y, y < n2 → y ≠ b → H3.get y = H2.get y := fun y hy hyb => by rw [lo3'' y hyb, Hp.get_ne _ _ (by omega)]
    have lo3 : ∀ y, y < n → y ≠ b → H3.get y = H.get y := fun y hy hyb => by rw [lo3' y (by omega) hyb]; exact lo2 y hy hyb
    have g3 : H3.get n = some k3 := by rw [lo3' n (by omega) (by omega)]; exact g2
    have h3 : H3.get (n + 1) = some k4 := by rw [lo3' (n + 1) (by omega) (by omega)]; exact h2
    have vb : -100 ≤ ([0, 1, 4, 9, 37, -5] : List Int).getD i 2 ∧ ([0, 1, 4, 9, 37, -5] : List Int).getD i 2 ≤ 255 := by
      rcases (show i = 0 ∨ i = 1 ∨ i = 2 ∨ i = 3 ∨ i = 4 ∨ i = 5 by omega) with rfl | rfl | rfl | rfl | rfl | rfl <;> simp <;> omega
    (try dsimp only)
    generalize ([0, 1, 4, 9, 37, -5] : List Int).getD i 2 = v at vb ⊢
    (repeat first|refine zG ?_|(refine LS.nilO ?_;intro nq hnq hltq;try refine zU ?_)|(refine MS.new ?_;intro bq hbq hbqf;try refine zU ?_)|(refine MS.nil ?_;intro nq hnq hltq;have hlq:=hltq _ _ (Hp.get_eq _ _ _);clear hltq;try refine zU ?_)|(refine LS.nilQ ?_;try with_reducible intro nq hnq;try refine zU ?_))
    have z5 : ((H3.set n (put1 k3.c (0) (SV.int .i64 v))).set (n + 1) (splice k4.c 0 522 (put1 k3.c (0) (SV.int .i64 v)))).get (n + 1) = some ⟨k4.size, splice k4.c 0 522 (put1 k3.c (0) (SV.int .i64 v)), k4.ty⟩ := Hp.get_set_self _ (by rw [Hp.get_set_other _ (by omega)]; exact h3)
    (repeat first|refine zG ?_|(refine LS.nilO ?_;intro nq hnq hltq;try refine zU ?_)|(refine MS.new ?_;intro bq hbq hbqf;try refine zU ?_)|(refine MS.nil ?_;intro nq hnq hltq;have hlq:=hltq _ _ (Hp.get_eq _ _ _);clear hltq;try refine zU ?_)|(refine LS.nilQ ?_;try with_reducible intro nq hnq;try refine zU ?_))
    exact ⟨.arr 522 (put1 k3.c (0) (SV.int .i64 v)), _, conc_arr (fun q hq => by rw [Nat.zero_add q]; unfold splice; rw [if_pos (by omega), Nat.sub_zero]), Drops.refl _ _, _, v, s, rfl, c3.prime, by omega, by omega, by omega, by omega, (hS3.keep (Hp.get_set_other _ (by omega))).keep (Hp.get_set_other _ (by omega)), fun y hy hyb => by rw [Hp.get_set_other _ (by omega), Hp.get_set_other _ (by omega)]; exact lo3 y hy hyb⟩
  (repeat first|refine zG ?_|(refine LS.nilO ?_;intro nq hnq hltq;try refine zU ?_)|(refine MS.new ?_;intro bq hbq hbqf;try refine zU ?_)|(refine MS.nil ?_;intro nq hnq hltq;have hlq:=hltq _ _ (Hp.get_eq _ _ _);clear hltq;try refine zU ?_)|(refine LS.nilQ ?_;try with_reducible intro nq hnq;try refine zU ?_))
  refine zI ?_ ?_<;>intro q1
  · (repeat first|refine zG ?_|(refine LS.nilO ?_;intro nq hnq hltq;try refine zU ?_)|(refine MS.new ?_;intro bq hbq hbqf;try refine zU ?_)|(refine MS.nil ?_;intro nq hnq hltq;have hlq:=hltq _ _ (Hp.get_eq _ _ _);clear hltq;try refine zU ?_)|(refine LS.nilQ ?_;try with_reducible intro nq hnq;try refine zU ?_))
    refine RS.call rfl ((spec_l01Pick m0 sv len f b t (fun i => ([0, 9, -1, s - 1] : List Int).getD i 2) 4 n2 _ _ _ hR hfb hlen (fun x hx => by rw [Hp.get_ne _ _ (by omega), lo2 x (by omega) (by omega)]; exact hm x hx) hbm (hS2.keep (Hp.get_ne _ _ (by omega))) (by omega) (by omega) (by omega) (by exact zH) (by simp) (fun i hi => by
      rcases (show i = 0 ∨ i = 1 ∨ i = 2 ∨ i = 3 by omega) with rfl | rfl | rfl | rfl <;> rfl)).mono ?_)
    rintro r H3 n3 hn3 ⟨i, hi, rfl, hS3, lo3''⟩
    have lo3' : ∀ y, y < n2 → y ≠ b → H3.get y = H2.get y := fun y hy hyb => by rw [lo3'' y hyb, Hp.get_ne _ _ (by omega)]
    have lo3 : ∀ y, y < n → y ≠ b → H3.get y = H.get y := fun y hy hyb => by rw [lo3' y (by omega) hyb]; exact lo2 y hy hyb
    have g3 : H3.get n = some k3 := by rw [lo3' n (by omega) (by omega)]; exact g2
    have h3 : H3.get (n + 1) = some k4 := by rw [lo3' (n + 1) (by omega) (by omega)]; exact h2
    have vb : -100 ≤ ([0, 9, -1, s - 1] : List Int).getD i 2 ∧ ([0, 9, -1, s - 1] : List Int).getD i 2 ≤ 255 := by
      rcases (show i = 0 ∨ i = 1 ∨ i = 2 ∨ i = 3 by omega) with rfl | rfl | rfl | rfl <;> simp <;> omega
    (try dsimp only)
    generalize ([0, 9, -1, s - 1] : List Int).getD i 2 = v at vb ⊢
    (repeat first|refine zG ?_|(refine LS.nilO ?_;intro nq hnq hltq;try refine zU ?_)|(refine MS.new ?_;intro bq hbq hbqf;try refine zU ?_)|(refine MS.nil ?_;intro nq hnq hltq;have hlq:=hltq _ _ (Hp.get_eq _ _ _);clear hltq;try refine zU ?_)|(refine LS.nilQ ?_;try with_reducible intro nq hnq;try refine zU ?_))
    have z5 : ((H3.set n (put1 k3.c (1) (SV.int .i64 v))).set (n + 1) (splice k4.c 0 522 (put1 k3.c (1) (SV.int .i64 v)))).get (n + 1) = some ⟨k4.size, splice k4.c 0 522 (put1 k3.c (1) (SV.int .i64 v)), k4.ty⟩ := Hp.get_set_self _ (by rw [Hp.get_set_other _ (by omega)]; exact h3)
    (repeat first|refine zG ?_|(refine LS.nilO ?_;intro nq hnq hltq;try refine zU ?_)|(refine MS.new ?_;intro bq hbq hbqf;try refine zU ?_)|(refine MS.nil ?_;intro nq hnq hltq;have hlq:=hltq _ _ (Hp.get_eq _ _ _);clear hltq;try refine zU ?_)|(refine LS.nilQ ?_;try with_reducible intro nq hnq;try refine zU ?_))
    exact ⟨.arr 522 (put1 k3.c (1) (SV.int .i64 v)), _, conc_arr (fun q hq => by rw [Nat.zero_add q]; unfold splice; rw [if_pos (by omega), Nat.sub_zero]), Drops.refl _ _, _, p, v, rfl, c3.size, by omega, by omega, by omega, by omega, (hS3.keep (Hp.get_set_other _ (by omega))).keep (Hp.get_set_other _ (by omega)), fun y hy hyb => by rw [Hp.get_set_other _ (by omega), Hp.get_set_other _ (by omega)]; exact lo3 y hy hyb⟩
  (repeat first|refine zG ?_|(refine LS.nilO ?_;intro nq hnq hltq;try refine zU ?_)|(refine MS.new ?_;intro bq hbq hbqf;try refine zU ?_)|(refine MS.nil ?_;intro nq hnq hltq;have hlq:=hltq _ _ (Hp.get_eq _ _ _);clear hltq;try refine zU ?_)|(refine LS.nilQ ?_;try with_reducible intro nq hnq;try refine zU ?_))
  refine zI ?_ ?_<;>intro q2
  · (repeat first|refine zG ?_|(refine LS.nilO ?_;intro nq hnq hltq;try refine zU ?_)|(refine MS.new ?_;intro bq hbq hbqf;try refine zU ?_)|(refine MS.nil ?_;intro nq hnq hltq;have hlq:=hltq _ _ (Hp.get_eq _ _ _);clear hltq;try refine zU ?_)|(refine LS.nilQ ?_;try with_reducible intro nq hnq;try refine zU ?_))
    refine CS.ordN [] (Ext.nil _) ?_
    refine FT.seg rfl (ST.mov (by exact rfl) ?_)
    refine FT.seg rfl (ST.mov (by exact rfl) ?_)
    refine FT.seg rfl (ST.mov (by exact rfl) ?_)
    refine FT.seg rfl (ST.mov (by exact rfl) ?_)
    refine FT.seg rfl (ST.fa (by exact rfl) ?_)
    refine FT.seg rfl (ST.call (R := fun r H' => ∃ y : Nat, r = i64 (y : Nat) ∧ y < 8 ∧ SRQ H' b t sv len ∧ ∀ z, z ≠ b → H'.get z = H2.get z) rfl (fun n' hn' hf' => (spec_l01Next m0 sv len f b t 8 _ _ hR hfb hlen (fun x hx => by rw [lo2 x (by omega) (by omega)]; exact hm x hx) hbm hS2).mono (by
      rintro r H' n'' hn'' ⟨y, rfl, y0, y1, -, q1, q2⟩
      obtain ⟨y, rfl⟩ := Int.eq_ofNat_of_zero_le y0
      exact ⟨⟨y, rfl, by have := y1 (by omega); omega, q1, q2⟩, Ext.nil _⟩)) ?_)
    rintro r H3 ⟨i, rfl, i1, hS3, lo3''⟩ -
    have lo3' : ∀ y, y < n2 → y ≠ b → H3.get y = H2.get y := fun y _ hyb => lo3'' y hyb
    have lo3 : ∀ y, y < n → y ≠ b → H3.get y = H.get y := fun y hy hyb => by rw [lo3' y (by omega) hyb]; exact lo2 y hy hyb
    have g3 : H3.get n = some k3 := by rw [lo3' n (by omega) (by omega)]; exact g2
    have h3 : H3.get (n + 1) = some k4 := by rw [lo3' (n + 1) (by omega) (by omega)]; exact h2
    refine FT.seg rfl (ST.ia (j := i) (by exact rfl) (by exact rfl) (by omega) ?_)
    refine FT.seg rfl (ST.call (R := fun r H' => ∃ y : Nat, r = i64 (y : Nat) ∧ y < 8 ∧ SRQ H' b t sv len ∧ ∀ z, z ≠ b → H'.get z = H3.get z) rfl (fun n' hn' hf' => (spec_l01Next m0 sv len f b t 8 _ _ hR hfb hlen (fun x hx => by rw [lo3 x (by omega) (by omega)]; exact hm x hx) hbm hS3).mono (by
      rintro r H' n'' hn'' ⟨y, rfl, y0, y1, -, q1, q2⟩
      obtain ⟨y, rfl⟩ := Int.eq_ofNat_of_zero_le y0
      exact ⟨⟨y, rfl, by have := y1 (by omega); omega, q1, q2⟩, Ext.nil _⟩)) ?_)
    rintro r H4 ⟨j, rfl, j1, hS4, lo4''⟩ -
    have lo4' : ∀ y, y < n2 → y ≠ b → H4.get y = H3.get y := fun y _ hyb => lo4'' y hyb
    have lo4 : ∀ y, y < n → y ≠ b → H4.get y = H.get y := fun y hy hyb => by rw [lo4' y (by omega) hyb]; exact lo3 y hy hyb
    have g4 : H4.get n = some k3 := by rw [lo4' n (by omega) (by omega)]; exact g3
    have h4 : H4.get (n + 1) = some k4 := by rw [lo4' (n + 1) (by omega) (by omega)]; exact h3
    refine FT.seg rfl (ST.ia (j := j) (by exact rfl) (by exact rfl) (by omega) ?_)
    refine FT.seg rfl (ST.call (R := fun r H' => ∃ y : Nat, r = i64 (y : Nat) ∧ y < 8 ∧ SRQ H' b t sv len ∧ ∀ z, z ≠ b → H'.get z = H4.get z) rfl (fun n' hn' hf' => (spec_l01Next m0 sv len f b t 8 _ _ hR hfb hlen (fun x hx => by rw [lo4 x (by omega) (by omega)]; exact hm x hx) hbm hS4).mono (by
      rintro r H' n'' hn'' ⟨y, rfl, y0, y1, -, q1, q2⟩
      obtain ⟨y, rfl⟩ := Int.eq_ofNat_of_zero_le y0
      exact ⟨⟨y, rfl, by have := y1 (by omega); omega, q1, q2⟩, Ext.nil _⟩)) ?_)
    rintro r H5 ⟨k, rfl, k1, hS5, lo5''⟩ -
    have lo5' : ∀ y, y < n2 → y ≠ b → H5.get y = H4.get y := fun y _ hyb => lo5'' y hyb
    have lo5 : ∀ y, y < n → y ≠ b → H5.get y = H.get y := fun y hy hyb => by rw [lo5' y (by omega) hyb]; exact lo4 y hy hyb
    have g5 : H5.get n = some k3 := by rw [lo5' n (by omega) (by omega)]; exact g4
    have h5 : H5.get (n + 1) = some k4 := by rw [lo5' (n + 1) (by omega) (by omega)]; exact h4
    refine FT.seg rfl (ST.call (R := fun r H' => ∃ y : Nat, r = i64 (y : Nat) ∧ y < 40 ∧ SRQ H' b t sv len ∧ ∀ z, z ≠ b → H'.get z = H5.get z) rfl (fun n' hn' hf' => (spec_l01Next m0 sv len f b t 40 _ _ hR hfb hlen (fun x hx => by rw [lo5 x (by omega) (by omega)]; exact hm x hx) hbm hS5).mono (by
      rintro r H' n'' hn'' ⟨y, rfl, y0, y1, -, q1, q2⟩
      obtain ⟨y, rfl⟩ := Int.eq_ofNat_of_zero_le y0
      exact ⟨⟨y, rfl, by have := y1 (by omega); omega, q1, q2⟩, Ext.nil _⟩)) ?_)
    rintro r H6 ⟨w, rfl, w1, hS6, lo6''⟩ -
    have lo6' : ∀ y, y < n2 → y ≠ b → H6.get y = H5.get y := fun y _ hyb => lo6'' y hyb
    have lo6 : ∀ y, y < n → y ≠ b → H6.get y = H.get y := fun y hy hyb => by rw [lo6' y (by omega) hyb]; exact lo5 y hy hyb
    have g6 : H6.get n = some k3 := by rw [lo6' n (by omega) (by omega)]; exact g5
    have h6 : H6.get (n + 1) = some k4 := by rw [lo6' (n + 1) (by omega) (by omega)]; exact h5
    refine FT.seg rfl (ST.cv8 (by exact rfl) (by omega) ?_)
    refine FT.seg rfl (ST.ia (j := k) (by exact rfl) (by exact rfl) (by omega) ?_)
    refine FT.seg rfl (ST.st1 (by exact rfl) (by exact rfl) g6 (by omega) rfl (Ext.nil _) ?_)
    refine FT.done ?_
    intro n7 hn7 hlt7
    dsimp only [Ex.then, Ex.inBlock, putD, Env.put]
    (repeat first|refine zG ?_|(refine LS.nilO ?_;intro nq hnq hltq;try refine zU ?_)|(refine MS.new ?_;intro bq hbq hbqf;try refine zU ?_)|(refine MS.nil ?_;intro nq hnq hltq;have hlq:=hltq _ _ (Hp.get_eq _ _ _);clear hltq;try refine zU ?_)|(refine LS.nilQ ?_;try with_reducible intro nq hnq;try refine zU ?_))
    have z5 : ((H6.set n (put1 k3.c (0 + 10 + 64 * i + 8 * j + 1 * k) (SV.int .u8 (w : Nat)))).set (n + 1) (splice k4.c 0 522 (put1 k3.c (0 + 10 + 64 * i + 8 * j + 1 * k) (SV.int .u8 (w : Nat))))).get (n + 1) = some ⟨k4.size, splice k4.c 0 522 (put1 k3.c (0 + 10 + 64 * i + 8 * j + 1 * k) (SV.int .u8 (w : Nat))), k4.ty⟩ := Hp.get_set_self _ (by rw [Hp.get_set_other _ (by omega)]; exact h6)
    (repeat first|refine zG ?_|(refine LS.nilO ?_;intro nq hnq hltq;try refine zU ?_)|(refine MS.new ?_;intro bq hbq hbqf;try refine zU ?_)|(refine MS.nil ?_;intro nq hnq hltq;have hlq:=hltq _ _ (Hp.get_eq _ _ _);clear hltq;try refine zU ?_)|(refine LS.nilQ ?_;try with_reducible intro nq hnq;try refine zU ?_))
    exact ⟨.arr 522 (put1 k3.c (0 + 10 + 64 * i + 8 * j + 1 * k) (SV.int .u8 (w : Nat))), _, conc_arr (fun q hq => by rw [Nat.zero_add q]; unfold splice; rw [if_pos (by omega), Nat.sub_zero]), Drops.refl _ _, _, p, s, rfl, c3.put (by omega) (by omega), by omega, by omega, by omega, by omega, (hS6.keep (Hp.get_set_other _ (by omega))).keep (Hp.get_set_other _ (by omega)), fun y hy hyb => by rw [Hp.get_set_other _ (by omega), Hp.get_set_other _ (by omega)]; exact lo6 y hy hyb⟩
  (repeat first|refine zG ?_|(refine LS.nilO ?_;intro nq hnq hltq;try refine zU ?_)|(refine MS.new ?_;intro bq hbq hbqf;try refine zU ?_)|(refine MS.nil ?_;intro nq hnq hltq;have hlq:=hltq _ _ (Hp.get_eq _ _ _);clear hltq;try refine zU ?_)|(refine LS.nilQ ?_;try with_reducible intro nq hnq;try refine zU ?_))
  refine zI ?_ ?_<;>intro q3
  · (repeat first|refine zG ?_|(refine LS.nilO ?_;intro nq hnq hltq;try refine zU ?_)|(refine MS.new ?_;intro bq hbq hbqf;try refine zU ?_)|(refine MS.nil ?_;intro nq hnq hltq;have hlq:=hltq _ _ (Hp.get_eq _ _ _);clear hltq;try refine zU ?_)|(refine LS.nilQ ?_;try with_reducible intro nq hnq;try refine zU ?_))
    refine RS.call rfl ((spec_l01Next m0 sv len f b t 8 _ _ hR hfb hlen (fun x hx => by rw [lo2 x (by omega) (by omega)]; exact hm x hx) hbm hS2).mono ?_)
    rintro r H3 n3 hn3 ⟨i, rfl, i0, i1, -, hS3, lo3''⟩
    replace i1 := i1 (by omega)
    have lo3' : ∀ y, y < n2 → y ≠ b → H3.get y = H2.get y := fun y _ hyb => lo3'' y hyb
    have lo3 : ∀ y, y < n → y ≠ b → H3.get y = H.get y := fun y hy hyb => by rw [lo3' y (by omega) hyb]; exact lo2 y hy hyb
    have g3 : H3.get n = some k3 := by rw [lo3' n (by omega) (by omega)]; exact g2
    have h3 : H3.get (n + 1) = some k4 := by rw [lo3' (n + 1) (by omega) (by omega)]; exact h2
    obtain ⟨i, rfl⟩ := Int.eq_ofNat_of_zero_le i0
    (repeat first|refine zG ?_|(refine LS.nilO ?_;intro nq hnq hltq;try refine zU ?_)|(refine MS.new ?_;intro bq hbq hbqf;try refine zU ?_)|(refine MS.nil ?_;intro nq hnq hltq;have hlq:=hltq _ _ (Hp.get_eq _ _ _);clear hltq;try refine zU ?_)|(refine LS.nilQ ?_;try with_reducible intro nq hnq;try refine zU ?_))
    refine RS.call rfl ((spec_l01Next m0 sv len f b t 3 _ _ hR hfb hlen (fun x hx => by rw [lo3 x (by omega) (by omega)]; exact hm x hx) hbm hS3).mono ?_)
    rintro r H4 n4 hn4 ⟨w, rfl, w0, w1, -, hS4, lo4''⟩
    replace w1 := w1 (by omega)
    have lo4' : ∀ y, y < n3 → y ≠ b → H4.get y = H3.get y := fun y _ hyb => lo4'' y hyb
    have lo4 : ∀ y, y < n → y ≠ b → H4.get y = H.get y := fun y hy hyb => by rw [lo4' y (by omega) hyb]; exact lo3 y hy hyb
    have g4 : H4.get n = some k3 := by rw [lo4' n (by omega) (by omega)]; exact g3
    have h4 : H4.get (n + 1) = some k4 := by rw [lo4' (n + 1) (by omega) (by omega)]; exact h3
    obtain ⟨w, rfl⟩ := Int.eq_ofNat_of_zero_le w0
    (repeat first|refine zG ?_|(refine LS.nilO ?_;intro nq hnq hltq;try refine zU ?_)|(refine MS.new ?_;intro bq hbq hbqf;try refine zU ?_)|(refine MS.nil ?_;intro nq hnq hltq;have hlq:=hltq _ _ (Hp.get_eq _ _ _);clear hltq;try refine zU ?_)|(refine LS.nilQ ?_;try with_reducible intro nq hnq;try refine zU ?_))
    have z5 : ((H4.set n (put1 k3.c (2 + i) (SV.int .u8 (w : Nat)))).set (n + 1) (splice k4.c 0 522 (put1 k3.c (2 + i) (SV.int .u8 (w : Nat))))).get (n + 1) = some ⟨k4.size, splice k4.c 0 522 (put1 k3.c (2 + i) (SV.int .u8 (w : Nat))), k4.ty⟩ := Hp.get_set_self _ (by rw [Hp.get_set_other _ (by omega)]; exact h4)
    (repeat first|refine zG ?_|(refine LS.nilO ?_;intro nq hnq hltq;try refine zU ?_)|(refine MS.new ?_;intro bq hbq hbqf;try refine zU ?_)|(refine MS.nil ?_;intro nq hnq hltq;have hlq:=hltq _ _ (Hp.get_eq _ _ _);clear hltq;try refine zU ?_)|(refine LS.nilQ ?_;try with_reducible intro nq hnq;try refine zU ?_))
    exact ⟨.arr 522 (put1 k3.c (2 + i) (SV.int .u8 (w : Nat))), _, conc_arr (fun q hq => by rw [Nat.zero_add q]; unfold splice; rw [if_pos (by omega), Nat.sub_zero]), Drops.refl _ _, _, p, s, rfl, c3.put (by omega) (by omega), by omega, by omega, by omega, by omega, (hS4.keep (Hp.get_set_other _ (by omega))).keep (Hp.get_set_other _ (by omega)), fun y hy hyb => by rw [Hp.get_set_other _ (by omega), Hp.get_set_other _ (by omega)]; exact lo4 y hy hyb⟩
  (repeat first|refine zG ?_|(refine LS.nilO ?_;intro nq hnq hltq;try refine zU ?_)|(refine MS.new ?_;intro bq hbq hbqf;try refine zU ?_)|(refine MS.nil ?_;intro nq hnq hltq;have hlq:=hltq _ _ (Hp.get_eq _ _ _);clear hltq;try refine zU ?_)|(refine LS.nilQ ?_;try with_reducible intro nq hnq;try refine zU ?_))
  exact ⟨.arr 522 k3.c, _, conc_arr (fun q hq => by rw [Nat.zero_add q]; unfold splice; rw [if_pos (by omega), Nat.sub_zero]), Drops.refl _ _, _, p, s, rfl, c3, by omega, by omega, by omega, by omega, hS2.keep (Hp.get_set_other _ (by omega)), fun y hy hyb => by rw [Hp.get_set_other _ (by omega)]; exact lo2 y hy hyb⟩

end Go.Proofs.YtgnphaopeplfbaaGreatDoor

/- Sources, vectors for an algebra. -/

namespace Go.Proofs.YtgnphaopeplfbaaGreatDoor

open Go.V

variable [BW]

set_option linter.unusedSimpArgs false

set_option linter.unusedVariables false

set_option maxHeartbeats 4000000

/-- spec.l01Spoil -/
def ir25 : Cd := (.seq (.reg [⟨some 2,none,.new 31 [(2,(.int .i64 0)),(520,(.int .u8 0))]⟩]) (.seq (.reg [⟨some 3,none,.mov (.t 0)⟩,⟨some 4,none,.mov (.t 0)⟩,⟨some 5,none,.call 56 [(.t 4)]⟩,⟨some 6,none,.call 55 [(.t 3),(.t 5)]⟩,⟨none,none,.st 522 (.t 2) (.t 6)⟩]) .ret))

set_option maxRecDepth 100000 in
theorem tr25 : trFn Tryz.prog Tryz.f25 = some (7, ir25, [.cell (some 522) 2]) := by kernel_rfl

theorem spec_l01Spoil (m0 : Nat) (sv : SV) (len : Nat) (f : Nat → Int) (b : Nat) (t : TypeId) (H : Hp) (n : Nat) (hR : RA m0 1 sv len f) (hfb : ∀ i, i < 1 * len → 0 ≤ f i ∧ f i ≤ 255) (hlen : len ≤ 4096) (hm : ∀ x, x < m0 → H.get x = none) (hbm : m0 ≤ b) (hS : SRQ H b t sv len) :
    FnS Tryz.prog 25 [ptr b 0] H n (fun r H' _ => ∃ K p s, r = .arr 522 K ∧ ALB K p s ∧ -100 ≤ p ∧ p ≤ 255 ∧ -100 ≤ s ∧ s ≤ 255 ∧ SRQ H' b t sv len ∧ ∀ y, y < n → y ≠ b → H'.get y = H.get y) := by
  obtain ⟨Kb, gS, -⟩ := id hS
  refine FnS.of_body Tryz.func25 tr25 (by simp) (fun hf => ?_)
  dsimp only [argEnv]
  unfold ir25
  have hbn := getlt hf gS
  (repeat first|refine zG ?_|(refine LS.nilO ?_;intro nq hnq hltq;try refine zU ?_)|(refine MS.new ?_;intro bq hbq hbqf;try refine zU ?_)|(refine MS.nil ?_;intro nq hnq hltq;have hlq:=hltq _ _ (Hp.get_eq _ _ _);clear hltq;try refine zU ?_)|(refine LS.nilQ ?_;try with_reducible intro nq hnq;try refine zU ?_))
  refine RS.call rfl ((spec_l01Draw m0 sv len f b t _ _ hR hfb hlen (fun x hx => by rw [Hp.get_ne _ _ (by omega)]; exact hm x hx) hbm (hS.keep (Hp.get_ne _ _ (by omega)))).mono ?_)
  rintro r H1 n1 hn1 ⟨K, p, s, rfl, hK, hp1, hp2, hs1, hs2, hS1, lo1⟩
  obtain ⟨kn, gn1, skn⟩ : ∃ kn, H1.get n = some kn ∧ kn.size = 522 := ⟨_, by rw [lo1 n (by omega) (by omega)]; exact Hp.get_eq _ _ _, rfl⟩
  (repeat first|refine zG ?_|(refine LS.nilO ?_;intro nq hnq hltq;try refine zU ?_)|(refine MS.new ?_;intro bq hbq hbqf;try refine zU ?_)|(refine MS.nil ?_;intro nq hnq hltq;have hlq:=hltq _ _ (Hp.get_eq _ _ _);clear hltq;try refine zU ?_)|(refine LS.nilQ ?_;try with_reducible intro nq hnq;try refine zU ?_))
  refine RS.call rfl ((spec_l01Bad m0 sv len f b t p s K _ _ hR hfb hlen (fun x hx => by rw [lo1 x (by omega) (by omega), Hp.get_ne _ _ (by omega)]; exact hm x hx) hbm hS1 hK ⟨hp1, hp2⟩ ⟨hs1, hs2⟩).mono ?_)
  rintro r H2 n2 hn2 ⟨K2, p2, s2, rfl, hK2, q1, q2, q3, q4, hS2, lo2⟩
  have gn2 : H2.get n = some kn := by rw [lo2 n (by omega) (by omega)]; exact gn1
  have gf : (H2.set n (splice kn.c 0 522 K2)).get n = some ⟨kn.size, splice kn.c 0 522 K2, kn.ty⟩ := Hp.get_set_self _ gn2
  (repeat first|refine zG ?_|(refine LS.nilO ?_;intro nq hnq hltq;try refine zU ?_)|(refine MS.new ?_;intro bq hbq hbqf;try refine zU ?_)|(refine MS.nil ?_;intro nq hnq hltq;have hlq:=hltq _ _ (Hp.get_eq _ _ _);clear hltq;try refine zU ?_)|(refine LS.nilQ ?_;try with_reducible intro nq hnq;try refine zU ?_))
  exact ⟨.arr 522 K2, _, conc_arr (fun q hq => by rw [Nat.zero_add q]; unfold splice; rw [if_pos (by omega), Nat.sub_zero]), Drops.refl _ _, K2, p2, s2, rfl, hK2, q1, q2, q3, q4, hS2.keep (Hp.get_set_other _ (by omega)), fun y hy hyb => by rw [Hp.get_set_other _ (by omega), lo2 y (by omega) hyb, lo1 y (by omega) hyb, Hp.get_ne _ _ (by omega)]⟩

/-- spec.l01Any -/
def ir26 : Cd := (.seq (.reg [⟨some 3,none,.box 31 (.t 1)⟩,⟨some 4,none,.new 25 [(8,(.int .u8 0))]⟩]) (.seq (.reg [⟨some 6,none,.mov (.t 0)⟩,⟨some 7,none,.fa 0 (.t 3)⟩,⟨some 8,none,.ld none (.t 7)⟩,⟨some 9,none,.fa 1 (.t 3)⟩,⟨some 10,none,.ld none (.t 9)⟩,⟨some 11,none,.call 57 [(.t 6),(.t 8),(.t 10)]⟩,⟨some 5,none,.new 25 [(8,(.int .u8 0))]⟩,⟨none,none,.st 8 (.t 5) (.t 11)⟩]) (.seq (.seq (.reg [⟨some 12,none,.mov (.t 0)⟩,⟨some 13,none,.call 45 [(.t 12),(.c (.int .i64 30))]⟩,⟨some 14,none,.bin .eql (.t 13) (.c (.int .i64 0))⟩]) (.cond (.t 14) (.reg [⟨some 15,none,.mov (.t 0)⟩,⟨some 16,none,.call 45 [(.t 15),(.c (.int .i64 8))]⟩,⟨some 17,none,.mov (.t 0)⟩,⟨some 18,none,.bsl 2 3 1 [(1,(.int .i64 0))] [(0,1,(.c (.int .i64 1))),(1,1,(.c (.int .i64 31))),(2,1,(.c (.int .i64 255)))]⟩,⟨some 19,none,.call 44 [(.t 17),(.t 18)]⟩,⟨some 20,none,.cv .u8 (.t 19)⟩,⟨some 21,none,.ia 8 1 (.t 5) (.t 16)⟩,⟨none,none,.st 1 (.t 21) (.t 20)⟩]) .skip)) (.seq (.reg [⟨some 22,none,.ld (some 8) (.t 5)⟩,⟨none,none,.st 8 (.t 4) (.t 22)⟩]) .ret))))

set_option maxRecDepth 100000 in
theorem tr26 : trFn Tryz.prog Tryz.f26 = some (23, ir26, [.cell (some 8) 4]) := by kernel_rfl

theorem spec_l01Any (m0 : Nat) (sv : SV) (len : Nat) (f : Nat → Int) (b : Nat) (t : TypeId) (p s : Int) (K : Nat → SV) (H : Hp) (n : Nat) (hR : RA m0 1 sv len f) (hfb : ∀ i, i < 1 * len → 0 ≤ f i ∧ f i ≤ 255) (hlen : len ≤ 4096) (hm : ∀ x, x < m0 → H.get x = none) (hbm : m0 ≤ b) (hS : SRQ H b t sv len) (hK : ALB K p s) :
    FnS Tryz.prog 26 [ptr b 0, .arr 522 K] H n (fun r H' _ => ∃ v : Nat → Int, r = .arr 8 (bys v) ∧ isBy 8 v ∧ SRQ H' b t sv len ∧ ∀ y, y < n → y ≠ b → H'.get y = H.get y) := by
  obtain ⟨Kb, gS, -⟩ := id hS
  have k0 := hK.1
  have k1 := hK.2.1
  have k1' : K (0 + 1) = .int .i64 s := k1
  refine FnS.of_body Tryz.func26 tr26 (by simp) (fun hf => ?_)
  dsimp only [argEnv]
  unfold ir26
  have hbn := getlt hf gS
  (repeat first|refine zG ?_|(refine LS.nilO ?_;intro nq hnq hltq;try refine zU ?_)|(refine MS.new ?_;intro bq hbq hbqf;try refine zU ?_)|(refine MS.nil ?_;intro nq hnq hltq;have hlq:=hltq _ _ (Hp.get_eq _ _ _);clear hltq;try refine zU ?_)|(refine LS.nilQ ?_;try with_reducible intro nq hnq;try refine zU ?_))
  refine RS.call rfl ((spec_l01DrawVector m0 sv len f b t p s _ _ hR hfb hlen (fun x hx => by rw [Hp.get_ne _ _ (by omega), Hp.get_ne _ _ (by omega)]; exact hm x hx) hbm (hS.keep (by rw [Hp.get_ne _ _ (by omega), Hp.get_ne _ _ (by omega)]))).mono ?_)
  rintro r H1 n1 hn1 ⟨v, rfl, hv, hS1, lo1'⟩
  obtain ⟨k4, g41, s4⟩ : ∃ k4, H1.get (n + 1) = some k4 ∧ k4.size = 8 := ⟨_, by rw [lo1' (n + 1) (by omega) (by omega)]; exact Hp.get_eq _ _ _, rfl⟩
  have lo1 : ∀ y, y < n → y ≠ b → H1.get y = H.get y := fun y hy hyb => by rw [lo1' y (by omega) hyb, Hp.get_ne _ _ (by omega), Hp.get_ne _ _ (by omega)]
  clear lo1'
  (repeat first|refine zG ?_|(refine LS.nilO ?_;intro nq hnq hltq;try refine zU ?_)|(refine MS.new ?_;intro bq hbq hbqf;try refine zU ?_)|(refine MS.nil ?_;intro nq hnq hltq;have hlq:=hltq _ _ (Hp.get_eq _ _ _);clear hltq;try refine zU ?_)|(refine LS.nilQ ?_;try with_reducible intro nq hnq;try refine zU ?_))
  obtain ⟨H2, hH2⟩ : ∃ HN : Hp, HN = (n1, ⟨Zs.size [(8, SV.int .u8 0)], bys v, 25⟩) :: H1 := ⟨_, rfl⟩
  have hS2 : SRQ H2 b t sv len := hS1.keep (by rw [hH2, Hp.get_ne _ _ (by omega)])
  have lo2 : ∀ y, y < n → y ≠ b → H2.get y = H.get y := fun y hy hyb => by rw [hH2, Hp.get_ne _ _ (by omega)]; exact lo1 y hy hyb
  have g42 : H2.get (n + 1) = some k4 := by rw [hH2, Hp.get_ne _ _ (by omega)]; exact g41
  obtain ⟨k5, hk5⟩ : ∃ k : Blk, k = ⟨Zs.size [(8, SV.int .u8 0)], bys v, 25⟩ := ⟨_, rfl⟩
  have g52 : H2.get n1 = some k5 := by rw [hH2, hk5]; exact Hp.get_eq _ _ _
  have s5 : k5.size = 8 := by rw [hk5]; rfl
  have c5 : ∀ q, q < 8 → k5.c q = .int .u8 (v q) := fun q hq => by rw [hk5]; rfl
  rw [← hH2]
  clear hH2 hk5
  refine RS.call rfl ((spec_l01Next m0 sv len f b t 30 _ _ hR hfb hlen (fun x hx => by rw [lo2 x (by omega) (by omega)]; exact hm x hx) hbm hS2).mono ?_)
  rintro r H3 n3 hn3 ⟨x, rfl, x0, x1, -, hS3, lo3'⟩
  have lo3 : ∀ y, y < n → y ≠ b → H3.get y = H.get y := fun y hy hyb => by rw [lo3' y hyb]; exact lo2 y hy hyb
  have g43 : H3.get (n + 1) = some k4 := by rw [lo3' _ (by omega)]; exact g42
  have g53 : H3.get n1 = some k5 := by rw [lo3' _ (by omega)]; exact g52
  (repeat first|refine zG ?_|(refine LS.nilO ?_;intro nq hnq hltq;try refine zU ?_)|(refine MS.new ?_;intro bq hbq hbqf;try refine zU ?_)|(refine MS.nil ?_;intro nq hnq hltq;have hlq:=hltq _ _ (Hp.get_eq _ _ _);clear hltq;try refine zU ?_)|(refine LS.nilQ ?_;try with_reducible intro nq hnq;try refine zU ?_))
  refine zI ?_ ?_<;>intro h1
  · (repeat first|refine zG ?_|(refine LS.nilO ?_;intro nq hnq hltq;try refine zU ?_)|(refine MS.new ?_;intro bq hbq hbqf;try refine zU ?_)|(refine MS.nil ?_;intro nq hnq hltq;have hlq:=hltq _ _ (Hp.get_eq _ _ _);clear hltq;try refine zU ?_)|(refine LS.nilQ ?_;try with_reducible intro nq hnq;try refine zU ?_))
    refine RS.call rfl ((spec_l01Next m0 sv len f b t 8 _ _ hR hfb hlen (fun x hx => by rw [lo3 x (by omega) (by omega)]; exact hm x hx) hbm hS3).mono ?_)
    rintro r H4 n4 hn4 ⟨i, rfl, i0, i1, -, hS4, lo4'⟩
    replace i1 := i1 (by omega)
    obtain ⟨i, rfl⟩ := Int.eq_ofNat_of_zero_le i0
    have lo4 : ∀ y, y < n → y ≠ b → H4.get y = H.get y := fun y hy hyb => by rw [lo4' y hyb]; exact lo3 y hy hyb
    have g44 : H4.get (n + 1) = some k4 := by rw [lo4' _ (by omega)]; exact g43
    have g54 : H4.get n1 = some k5 := by rw [lo4' _ (by omega)]; exact g53
    (repeat first|refine zG ?_|(refine LS.nilO ?_;intro nq hnq hltq;try refine zU ?_)|(refine MS.new ?_;intro bq hbq hbqf;try refine zU ?_)|(refine MS.nil ?_;intro nq hnq hltq;have hlq:=hltq _ _ (Hp.get_eq _ _ _);clear hltq;try refine zU ?_)|(refine LS.nilQ ?_;try with_reducible intro nq hnq;try refine zU ?_))
    refine RS.call rfl ((spec_l01Pick m0 sv len f b t (fun i => ([1, 31, 255] : List Int).getD i 2) 3 n4 _ _ _ hR hfb hlen (fun x hx => by rw [Hp.get_ne _ _ (by omega), lo4 x (by omega) (by omega)]; exact hm x hx) hbm (hS4.keep (Hp.get_ne _ _ (by omega))) (by omega) (by omega) (by omega) (by exact zH) (by simp) (fun i hi => by
      rcases (show i = 0 ∨ i = 1 ∨ i = 2 by omega) with rfl | rfl | rfl <;> rfl)).mono ?_)
    rintro r H5 n5 hn5 ⟨j, hj, rfl, hS5, lo5''⟩
    have lo5 : ∀ y, y < n → y ≠ b → H5.get y = H.get y := fun y hy hyb => by rw [lo5'' y hyb, Hp.get_ne _ _ (by omega)]; exact lo4 y hy hyb
    have g45 : H5.get (n + 1) = some k4 := by rw [lo5'' _ (by omega), Hp.get_ne _ _ (by omega)]; exact g44
    have g55 : H5.get n1 = some k5 := by rw [lo5'' _ (by omega), Hp.get_ne _ _ (by omega)]; exact g54
    have wb : 0 ≤ ([1, 31, 255] : List Int).getD j 2 ∧ ([1, 31, 255] : List Int).getD j 2 ≤ 255 := by
      rcases (show j = 0 ∨ j = 1 ∨ j = 2 by omega) with rfl | rfl | rfl <;> decide
    (try dsimp only)
    generalize ([1, 31, 255] : List Int).getD j 2 = w at wb ⊢
    (repeat first|refine zG ?_|(refine LS.nilO ?_;intro nq hnq hltq;try refine zU ?_)|(refine MS.new ?_;intro bq hbq hbqf;try refine zU ?_)|(refine MS.nil ?_;intro nq hnq hltq;have hlq:=hltq _ _ (Hp.get_eq _ _ _);clear hltq;try refine zU ?_)|(refine LS.nilQ ?_;try with_reducible intro nq hnq;try refine zU ?_))
    have z5 : ((H5.set n1 (put1 k5.c i (.int .u8 w))).set (n + 1) (splice k4.c 0 8 (put1 k5.c i (.int .u8 w)))).get (n + 1) = some ⟨k4.size, splice k4.c 0 8 (put1 k5.c i (.int .u8 w)), k4.ty⟩ := Hp.get_set_self _ (by rw [Hp.get_set_other _ (by omega)]; exact g45)
    (repeat first|refine zG ?_|(refine LS.nilO ?_;intro nq hnq hltq;try refine zU ?_)|(refine MS.new ?_;intro bq hbq hbqf;try refine zU ?_)|(refine MS.nil ?_;intro nq hnq hltq;have hlq:=hltq _ _ (Hp.get_eq _ _ _);clear hltq;try refine zU ?_)|(refine LS.nilQ ?_;try with_reducible intro nq hnq;try refine zU ?_))
    exact ⟨.arr 8 (bys fun q => if q = i then w else v q), _, conc_arr (fun q hq => by
      rw [Nat.zero_add q]
      unfold splice put1
      rw [if_pos (by omega), Nat.sub_zero]
      show _ = SV.int IntKind.u8 (if q = i then w else v q)
      by_cases e : q = i
      · rw [if_pos e, if_pos e]
      · rw [if_neg e, if_neg e]; exact c5 q hq), Drops.refl _ _, _, rfl, fun q hq => by
      (try dsimp only)
      split
      · exact wb
      · exact hv q hq, (hS5.keep (Hp.get_set_other _ (by omega))).keep (Hp.get_set_other _ (by omega)), fun y hy hyb => by rw [Hp.get_set_other _ (by omega), Hp.get_set_other _ (by omega)]; exact lo5 y hy hyb⟩
  · (repeat first|refine zG ?_|(refine LS.nilO ?_;intro nq hnq hltq;try refine zU ?_)|(refine MS.new ?_;intro bq hbq hbqf;try refine zU ?_)|(refine MS.nil ?_;intro nq hnq hltq;have hlq:=hltq _ _ (Hp.get_eq _ _ _);clear hltq;try refine zU ?_)|(refine LS.nilQ ?_;try with_reducible intro nq hnq;try refine zU ?_))
    have z5 : (H3.set (n + 1) (splice k4.c 0 8 k5.c)).get (n + 1) = some ⟨k4.size, splice k4.c 0 8 k5.c, k4.ty⟩ := Hp.get_set_self _ g43
    (repeat first|refine zG ?_|(refine LS.nilO ?_;intro nq hnq hltq;try refine zU ?_)|(refine MS.new ?_;intro bq hbq hbqf;try refine zU ?_)|(refine MS.nil ?_;intro nq hnq hltq;have hlq:=hltq _ _ (Hp.get_eq _ _ _);clear hltq;try refine zU ?_)|(refine LS.nilQ ?_;try with_reducible intro nq hnq;try refine zU ?_))
    exact ⟨.arr 8 (bys v), _, conc_arr (fun q hq => by rw [Nat.zero_add q]; unfold splice; rw [if_pos (by omega), Nat.sub_zero]; exact c5 q hq), Drops.refl _ _, v, rfl, hv, hS3.keep (Hp.get_set_other _ (by omega)), fun y hy hyb => by rw [Hp.get_set_other _ (by omega)]; exact lo3 y hy hyb⟩

end Go.Proofs.YtgnphaopeplfbaaGreatDoor

/- Products are linear and associative; inverses (no program in sight). -/

namespace Go.V

set_option linter.unusedVariables false

theorem pr_eq (p : Int) (m v w : Nat → Int) (n q : Nat) : pr p m v w n q = sm (fun i => sm (fun j => v i * w j * m (64 * i + 8 * j + q)) n) n % p := by
  unfold pr pk
  show (_ + 0) % p = _
  rw [Int.add_zero]

theorem pr_basr {p : Int} {m v : Nat → Int} {n k : Nat} (hk : k < n) (q : Nat) : pr p m v (bas k) n q = sm (fun i => v i * m (64 * i + 8 * k + q)) n % p := by
  rw [pr_eq]
  refine congrArg (· % p) (sm_congr (fun i _ => ?_))
  rw [sm_one hk (fun j _ hj => by unfold bas; rw [if_neg hj]; simp)]
  unfold bas; rw [if_pos rfl, Int.mul_one]

theorem pr_basl {p : Int} {m w : Nat → Int} {n k : Nat} (hk : k < n) (q : Nat) : pr p m (bas k) w n q = sm (fun j => w j * m (64 * k + 8 * j + q)) n % p := by
  rw [pr_eq]
  rw [sm_one hk (fun i _ hi => sm_zero (fun j _ => by unfold bas; rw [if_neg hi]; simp))]
  refine congrArg (· % p) (sm_congr (fun j _ => ?_))
  unfold bas; rw [if_pos rfl, Int.one_mul]

theorem pr_linr (p : Int) (m v w : Nat → Int) (n q : Nat) : pr p m v w n q = sm (fun j => w j * pr p m v (bas j) n q) n % p := by
  rw [pr_eq, sm_swap]
  refine sm_modc (fun j hj => ?_)
  rw [pr_basr hj, emodR, sm_mul]
  refine congrArg (· % p) (sm_congr (fun i _ => ?_))
  rw [Int.mul_comm (v i), Int.mul_assoc]

theorem pr_linl (p : Int) (m v w : Nat → Int) (n q : Nat) : pr p m v w n q = sm (fun i => v i * pr p m (bas i) w n q) n % p := by
  rw [pr_eq]
  refine sm_modc (fun i hi => ?_)
  rw [pr_basl hi, emodR, sm_mul]
  refine congrArg (· % p) (sm_congr (fun j _ => ?_))
  rw [Int.mul_assoc]

theorem pr_sumr {p : Int} {m x w z : Nat → Int} {W : Nat → Nat → Int} {n : Nat} (h : ∀ b, b < n → w b % p = sm (fun k => z k * W k b) n % p) (q : Nat) : pr p m x w n q = sm (fun k => z k * pr p m x (W k) n q) n % p := by
  rw [pr_linr]
  rw [sm_modc (g := fun b => sm (fun k => z k * (W k b * pr p m x (bas b) n q)) n) (fun b hb => by
    rw [Gmodmul (h b hb) rfl, sm_mulr]
    refine congrArg (· % p) (sm_congr (fun k _ => ?_))
    rw [Int.mul_assoc])]
  rw [sm_swap]
  refine sm_modc (fun k _ => ?_)
  rw [pr_linr p m x (W k), emodR, sm_mul]

theorem pr_suml {p : Int} {m w y z : Nat → Int} {W : Nat → Nat → Int} {n : Nat} (h : ∀ b, b < n → w b % p = sm (fun k => z k * W k b) n % p) (q : Nat) : pr p m w y n q = sm (fun k => z k * pr p m (W k) y n q) n % p := by
  rw [pr_linl]
  rw [sm_modc (g := fun b => sm (fun k => z k * (W k b * pr p m (bas b) y n q)) n) (fun b hb => by
    rw [Gmodmul (h b hb) rfl, sm_mulr]
    refine congrArg (· % p) (sm_congr (fun k _ => ?_))
    rw [Int.mul_assoc])]
  rw [sm_swap]
  refine sm_modc (fun k _ => ?_)
  rw [pr_linl p m (W k), emodR, sm_mul]

theorem pr_congr {p : Int} {m v v' w w' : Nat → Int} {n : Nat} (hv : ∀ i, i < n → v i % p = v' i % p) (hw : ∀ i, i < n → w i % p = w' i % p) (q : Nat) : pr p m v w n q = pr p m v' w' n q := by
  rw [pr_eq, pr_eq]
  refine sm_modc (fun i hi => sm_modc (fun j hj => ?_))
  exact Gmodmul (Gmodmul (hv i hi) (hw j hj)) rfl

theorem pr_idem (p : Int) (m v w : Nat → Int) (n q : Nat) : pr p m v w n q % p = pr p m v w n q := by rw [pr_eq, emod_idem]

theorem pr_assoc {p : Int} {m : Nat → Int} {n : Nat} (hn : n ≤ 8) (ha : assoc p n m) (x y z : Nat → Int) {q : Nat} (hq : q < 8) : pr p m (pr p m x y n) z n q = pr p m x (pr p m y z n) n q := by
  have hbb : ∀ i j, i < n → j < n → ∀ b, pr p m (bas i) (bas j) n b = m (64 * i + 8 * j + b) % p := fun i j hi hj b => by
    rw [pr_basl hi, sm_one hj (fun k _ hk => by unfold bas; rw [if_neg hk, Int.zero_mul])]; unfold bas; rw [if_pos rfl, Int.one_mul]
  have hA : ∀ i j k, i < n → j < n → k < n → pr p m (pr p m (bas i) (bas j) n) (bas k) n q = pr p m (bas i) (pr p m (bas j) (bas k) n) n q := fun i j k hi hj hk => by
    rw [pr_congr (v' := fun x => m (64 * i + 8 * j + x)) (w' := bas k) (fun b _ => by rw [hbb i j hi hj, emod_idem]) (fun _ _ => rfl), ha i j k hi hj hk q hq]
    exact pr_congr (fun _ _ => rfl) (fun b _ => by rw [hbb j k hj hk, emod_idem]) q
  have hB : ∀ i k, i < n → k < n → pr p m (pr p m (bas i) y n) (bas k) n q = pr p m (bas i) (pr p m y (bas k) n) n q := fun i k hi hk => by
    rw [pr_suml (z := y) (W := fun j => pr p m (bas i) (bas j) n) (fun b _ => by rw [pr_idem]; exact pr_linr _ _ _ _ _ _), pr_sumr (z := y) (W := fun j => pr p m (bas j) (bas k) n) (fun b _ => by rw [pr_idem]; exact pr_linl _ _ _ _ _ _)]
    exact congrArg (· % p) (sm_congr (fun j hj => by rw [hA i j k hi hj hk]))
  have hC : ∀ k, k < n → pr p m (pr p m x y n) (bas k) n q = pr p m x (pr p m y (bas k) n) n q := fun k hk => by
    rw [pr_suml (z := x) (W := fun i => pr p m (bas i) y n) (fun b _ => by rw [pr_idem]; exact pr_linl _ _ _ _ _ _), pr_linl p m x]
    exact congrArg (· % p) (sm_congr (fun i hi => by rw [hB i k hi hk]))
  rw [pr_linr p m (pr p m x y n) z, pr_sumr (x := x) (z := z) (W := fun k => pr p m y (bas k) n) (fun b _ => by rw [pr_idem]; exact pr_linr _ _ _ _ _ _)]
  exact congrArg (· % p) (sm_congr (fun k hk => by rw [hC k hk]))

theorem sm_bas {v : Nat → Int} {n q : Nat} (hq : q < 8) (hv : ∀ x, x < 8 → n ≤ x → v x = 0) : sm (fun i => v i * bas i q) n = v q := by
  by_cases e : q < n
  · rw [sm_one e (fun i _ hi => by unfold bas; rw [if_neg (fun h => hi h.symm), Int.mul_zero])]; unfold bas; rw [if_pos rfl, Int.mul_one]
  · rw [sm_zero (fun i hi => by unfold bas; rw [if_neg (by omega), Int.mul_zero]), hv q hq (by omega)]

theorem pr_unitl {p : Int} {u m v : Nat → Int} {n : Nat} (hu : units p n u m) (hr : isRes p 8 v) (hv : ∀ x, x < 8 → n ≤ x → v x = 0) {q : Nat} (hq : q < 8) : pr p m u v n q = v q := by
  rw [pr_linr, sm_congr (g := fun i => v i * bas i q) (fun i hi => by rw [(hu i hi).1 q hq]), sm_bas hq hv, modSelf (hr q hq)]

theorem pr_unitr {p : Int} {u m v : Nat → Int} {n : Nat} (hu : units p n u m) (hr : isRes p 8 v) (hv : ∀ x, x < 8 → n ≤ x → v x = 0) {q : Nat} (hq : q < 8) : pr p m v u n q = v q := by
  rw [pr_linl, sm_congr (g := fun i => v i * bas i q) (fun i hi => by rw [(hu i hi).2 q hq]), sm_bas hq hv, modSelf (hr q hq)]

/-- One row more: the images and what leads to them, as the spec makes them. -/
noncomputable def gst (p : Int) (f : Nat → Int) (i : Nat) (g : Nat × (Nat → Nat → Int) × (Nat → Nat → Int)) : Nat × (Nat → Nat → Int) × (Nat → Nat → Int) :=
  if fsn (rdk p g.2.1 (fun x => f (8 * i + x)) g.1) 8 < 8 then
    (g.1 + 1, snc g.2.1 g.1 (pl p (fun _ => 0) (inv p (rdk p g.2.1 (fun x => f (8 * i + x)) g.1 (fsn (rdk p g.2.1 (fun x => f (8 * i + x)) g.1) 8))) (rdk p g.2.1 (fun x => f (8 * i + x)) g.1)),
      snc g.2.2 g.1 (pl p (fun _ => 0) (inv p (rdk p g.2.1 (fun x => f (8 * i + x)) g.1 (fsn (rdk p g.2.1 (fun x => f (8 * i + x)) g.1) 8))) (rdw p g.2.1 g.2.2 (fun x => f (8 * i + x)) (bas i) (-1) g.1)))
  else g

noncomputable def gsr (p : Int) (f : Nat → Int) : Nat → Nat × (Nat → Nat → Int) × (Nat → Nat → Int)
  | 0 => (0, fun _ _ => 0, fun _ _ => 0)
  | i + 1 => gst p f i (gsr p f i)

theorem gsr_ker {p : Int} {f : Nat → Int} {i m : Nat} {I S : Nat → Nat → Int} (h : gsr p f i = (m, I, S)) (h0 : ∀ q, q < 8 → rdk p I (fun x => f (8 * i + x)) m q = 0) : gsr p f (i + 1) = (m, I, S) := by
  show gst p f i (gsr p f i) = _
  rw [h]
  unfold gst
  show (if fsn (rdk p I (fun x => f (8 * i + x)) m) 8 < 8 then _ else _) = _
  rw [if_neg (by rw [fsn_all h0]; omega)]

theorem gsr_img {p : Int} {f : Nat → Int} {i m : Nat} {I S : Nat → Nat → Int} (h : gsr p f i = (m, I, S)) {U W : Nat → Int} (hU : U = rdk p I (fun x => f (8 * i + x)) m) (hW : W = rdw p I S (fun x => f (8 * i + x)) (bas i) (-1) m) (h0 : fsn U 8 < 8) :
    gsr p f (i + 1) = (m + 1, snc I m (pl p (fun _ => 0) (inv p (U (fsn U 8))) U), snc S m (pl p (fun _ => 0) (inv p (U (fsn U 8))) W)) := by
  subst hU hW
  show gst p f i (gsr p f i) = _
  rw [h]
  unfold gst
  show (if fsn (rdk p I (fun x => f (8 * i + x)) m) 8 < 8 then _ else _) = _
  rw [if_pos h0]

theorem gsr_src {p : Int} (hp : isP p = true) {f : Nat → Int} {n : Nat} (hn : n ≤ 8) (hf : isRes p 64 f) : ∀ i, i ≤ n → SRC p f n (gsr p f i).2.1 (gsr p f i).2.2 (gsr p f i).1 i
  | 0, _ => SRC.zero f n _ _
  | i + 1, hi => by
    have ih := gsr_src hp hn hf i (by omega)
    obtain ⟨m, I, S, h⟩ : ∃ m I S, gsr p f i = (m, I, S) := ⟨_, _, _, rfl⟩
    rw [h] at ih
    by_cases h0 : fsn (rdk p I (fun x => f (8 * i + x)) m) 8 < 8
    · rw [gsr_img h rfl rfl h0]
      exact SRC.img hp ih (by omega) hn hf _ _ rfl rfl h0
    · have hz : ∀ q, q < 8 → rdk p I (fun x => f (8 * i + x)) m q = 0 := fun q hq => fsn_low _ 8 q (by omega)
      rw [gsr_ker h hz]
      exact ih.ker hz

/-- What is lifted, and what is left. -/
noncomputable def lfw (p : Int) (f v : Nat → Int) (a : Nat) : Nat → Int := rdw p (gsr p f a).2.1 (gsr p f a).2.2 v (fun _ => 0) 1 (gsr p f a).1

noncomputable def lfr (p : Int) (f v : Nat → Int) (a : Nat) : Nat → Int := rdk p (gsr p f a).2.1 v (gsr p f a).1

/-- The table of w ↦ v w, row i being v e(i). -/
def lfm (p : Int) (m v : Nat → Int) (n : Nat) : Nat → Int := fun q => pr p m v (bas (q / 8)) n (q % 8)

theorem lfm_at (p : Int) (m v : Nat → Int) (n i y : Nat) (hy : y < 8) : pr p m v (bas i) n y = lfm p m v n (8 * i + y) := by
  unfold lfm; rw [show (8 * i + y) / 8 = i by omega, show (8 * i + y) % 8 = y by omega]

def lft (p : Int) (m v : Nat → Int) (n : Nat) : Nat → Int := rowsTo (fun _ => 0) (lfm p m v n) n

theorem lft_at {p : Int} {m v : Nat → Int} {n i y : Nat} (hi : i < n) (hy : y < 8) : lft p m v n (8 * i + y) = pr p m v (bas i) n y := by
  unfold lft rowsTo; rw [if_pos (by omega), ← lfm_at _ _ _ _ _ _ hy]

theorem lft_res {p : Int} (hp : 2 ≤ p) (m v : Nat → Int) (n N : Nat) : isRes p N (lft p m v n) := fun q _ => by
  unfold lft rowsTo
  split
  · exact modB _ hp
  · exact ⟨Int.le_refl _, by (try dsimp only); omega⟩

theorem lft_app {p : Int} {m v w : Nat → Int} {n : Nat} (hn : n ≤ 8) (hz : ∀ y, y < 8 → n ≤ y → w y = 0) {x : Nat} (hx : x < 8) : app p (lft p m v n) w x = pr p m v w n x := by
  unfold app
  rw [pr_linr, sm_more (n := n) hn (fun i h1 h2 => by rw [hz i h2 h1, Int.zero_mul])]
  exact congrArg (· % p) (sm_congr (fun i hi => by rw [lft_at hi hx]))

/-- w is the inverse of v. -/
structure isIv (p : Int) (u m v : Nat → Int) (n : Nat) (w : Nat → Int) : Prop where
  r : isRes p 8 w
  z : ∀ x, x < 8 → n ≤ x → w x = 0
  vw : ∀ q, q < 8 → pr p m v w n q = u q
  wv : ∀ q, q < 8 → pr p m w v n q = u q

/-- A right inverse of what has an inverse is the inverse. -/
theorem isIv.right {p : Int} {u m v w x : Nat → Int} {n : Nat} (hn : n ≤ 8) (hu : units p n u m) (ha : assoc p n m) (h : isIv p u m v n w) (hr : isRes p 8 x) (hz : ∀ y, y < 8 → n ≤ y → x y = 0) (hx : ∀ q, q < 8 → pr p m v x n q = u q) {q : Nat} (hq : q < 8) : x q = w q := by
  have e1 := pr_unitl hu hr hz hq
  rw [pr_congr (v' := pr p m w v n) (w' := x) (fun i hi => by rw [h.wv i (by omega)]) (fun _ _ => rfl), pr_assoc hn ha w v x hq, pr_congr (v' := w) (w' := u) (fun _ _ => rfl) (fun i hi => by rw [hx i (by omega)]), pr_unitr hu h.r h.z hq] at e1
  exact e1.symm

theorem isIv.cong {p : Int} {u m v w x : Nat → Int} {n : Nat} (hn : n ≤ 8) (h : isIv p u m v n w) (hx : ∀ q, q < 8 → x q = w q) : isIv p u m v n x :=
  ⟨fun q hq => by rw [hx q hq]; exact h.r q hq, fun q hq h1 => by rw [hx q hq]; exact h.z q hq h1, fun q hq => by rw [← h.vw q hq]; exact pr_congr (fun _ _ => rfl) (fun i hi => by rw [hx i (by omega)]) q, fun q hq => by rw [← h.wv q hq]; exact pr_congr (fun i hi => by rw [hx i (by omega)]) (fun _ _ => rfl) q⟩

/-- The spec's way to an inverse. -/
theorem lift_inv {p : Int} {u m v : Nat → Int} {n : Nat} (hp : isP p = true) (hn : n ≤ 8) (hu : units p n u m) (ha : assoc p n m) (hru : isRes p 8 u) :
    ((∀ q, q < 8 → lfr p (lft p m v n) u n q = 0) ∧ (∀ q, q < 8 → pr p m (lfw p (lft p m v n) u n) v n q = u q)) ↔ isIv p u m v n (lfw p (lft p m v n) u n) := by
  have hb := isP_le hp
  have hs := gsr_src hp hn (lft_res hb.1 m v n 64) n (Nat.le_refl _)
  have hz : ∀ y, y < 8 → n ≤ y → lfw p (lft p m v n) u n y = 0 := fun y hy h => rdw_sz hs (fun _ _ _ => rfl) hy h _ (Nat.le_refl _)
  have h1 : (∀ q, q < 8 → lfr p (lft p m v n) u n q = 0) → ∀ q, q < 8 → pr p m v (lfw p (lft p m v n) u n) n q = u q := fun h q hq => by
    rw [← lft_app hn hz hq]; exact lift_app hb.1 hs hru h hq
  constructor
  · rintro ⟨h2, h3⟩
    exact ⟨rdw_res hb.1 (fun _ _ => ⟨by (try dsimp only); omega, by (try dsimp only); omega⟩) _, hz, h1 h2, h3⟩
  · intro h
    refine ⟨fun q hq => lift_none hb.1 hs hru (y := lfw p (lft p m v n) u n) (fun x hx => ?_) hq, h.wv⟩
    rw [← h.vw x hx, pr_idem, pr_linr]
    exact congrArg (· % p) (sm_congr (fun i hi => by rw [lft_at hi hx]))

theorem lift_all {p : Int} {u m v w : Nat → Int} {n : Nat} (hp : isP p = true) (hn : n ≤ 8) (hu : units p n u m) (ha : assoc p n m) (hru : isRes p 8 u) (h : isIv p u m v n w) {q : Nat} (hq : q < 8) : lfw p (lft p m v n) u n q = w q := by
  have hb := isP_le hp
  have hs := gsr_src hp hn (lft_res hb.1 m v n 64) n (Nat.le_refl _)
  have hz : ∀ y, y < 8 → n ≤ y → lfw p (lft p m v n) u n y = 0 := fun y hy h => rdw_sz hs (fun _ _ _ => rfl) hy h _ (Nat.le_refl _)
  have h2 : ∀ q, q < 8 → lfr p (lft p m v n) u n q = 0 := fun q hq => lift_none hb.1 hs hru (y := w) (fun x hx => by
    rw [← h.vw x hx, pr_idem, pr_linr]
    exact congrArg (· % p) (sm_congr (fun i hi => by rw [lft_at hi hx]))) hq
  have hw : ∀ q, q < 8 → pr p m v (lfw p (lft p m v n) u n) n q = u q := fun q hq => by
    rw [← lft_app hn hz hq]; exact lift_app hb.1 hs hru h2 hq
  exact h.right hn hu ha (rdw_res hb.1 (fun _ _ => ⟨by (try dsimp only); omega, by (try dsimp only); omega⟩) _) hz hw hq

end Go.V
