/- Adjoint actions, normal sub Hopf algebras, the program's. -/
import Derived.Test.YtideblodkkgodaaGreatJbv
import Derived.Test.YtideblodkkgodaaGreatJbw
import Derived.Test.YtideblodkkgodaaGreatJbq
set_option linter.unusedSectionVars false
set_option linter.unusedVariables false
set_option linter.unusedSimpArgs false

namespace Go.V

variable [BW]

set_option linter.unusedSimpArgs false

set_option linter.unusedVariables false

section

variable {P : Program} {N mm : Nat} {e : Env} {H F : Hp} {n : Nat} {d : Option Nat} {K : Env → Hp → Prop}

theorem ST.notb {x : X} {q : Bool} (hx : x.ev e = some (.s (.bool q))) (h : K (putD d (.s (.bool (!q))) e) H) : ST P N mm ⟨d, none, .un .not x⟩ e H F n K :=
  ST.pure (by simp only [PV, hx]; exact h)

end

end Go.V

namespace Go.Proofs.YtideblodkkgodaaGreat

open Go.V

variable [BW]

set_option linter.unusedSimpArgs false

set_option linter.unusedVariables false

set_option maxHeartbeats 4000000

/-- (*impl.Hopf).adjoint$1 -/
def ir74 : Cd := (.seq (.mixt [] [⟨some 13,none,.mov (.t 0)⟩,⟨some 14,none,.call 33 [(.t 13)]⟩,⟨some 15,none,.ld none (.t 3)⟩,⟨some 16,none,.mov (.t 1)⟩,⟨some 17,none,.ck (.t 15)⟩,⟨some 18,none,.fa 1042 (.t 17)⟩,⟨some 19,none,.ia 8 8 (.t 18) (.t 16)⟩,⟨some 20,none,.ld (some 8) (.t 19)⟩] [⟨some 13,none,.mov (.t 0)⟩,⟨some 14,none,.call 33 [(.t 13)]⟩,⟨some 15,none,.ld none (.t 3)⟩,⟨some 16,none,.mov (.t 1)⟩,⟨some 17,none,.ck (.t 15)⟩,⟨some 18,none,.fa 1042 (.t 17)⟩,⟨some 19,none,.ia 8 8 (.t 18) (.t 16)⟩,⟨some 20,none,.ld (some 8) (.t 19)⟩,⟨some 11,none,.new 32 [(8,(.int .u8 0))]⟩,⟨some 12,none,.new 32 [(8,(.int .u8 0))]⟩,⟨none,none,.st 8 (.t 11) (.t 14)⟩,⟨none,none,.st 8 (.t 12) (.t 20)⟩] (.fork (.seg 8 (.seg 9 (.seg 10 (.seg 11 .done)))) (.seg 9 (.seg 8 (.seg 10 (.seg 11 .done)))))) (.seq (.seq (.reg [⟨some 21,none,.ld none (.t 4)⟩]) (.cond (.t 21) (.drw true [8,9] [⟨some 22,none,.ld none (.t 3)⟩,⟨some 23,none,.mov (.t 0)⟩,⟨some 24,none,.ck (.t 22)⟩,⟨some 25,none,.fa 1042 (.t 24)⟩,⟨some 26,none,.ia 8 8 (.t 25) (.t 23)⟩,⟨some 27,none,.ld (some 8) (.t 26)⟩,⟨some 28,none,.mov (.t 1)⟩,⟨some 29,none,.call 33 [(.t 28)]⟩,⟨none,none,.st 8 (.t 11) (.t 27)⟩,⟨none,none,.st 8 (.t 12) (.t 29)⟩]) .skip)) (.drwo true [9] [0,1,2,3,4,5,7,6,8,9] [⟨some 30,none,.ld (some 2) (.t 5)⟩,⟨some 31,none,.mov (.t 2)⟩,⟨some 32,none,.ld none (.t 3)⟩,⟨some 33,none,.ld none (.t 3)⟩,⟨some 34,none,.ld (some 8) (.t 11)⟩,⟨some 35,none,.ld (some 8) (.t 7)⟩,⟨some 36,none,.call 32 [(.t 33),(.t 34),(.t 35)]⟩,⟨some 37,none,.ld (some 8) (.t 12)⟩,⟨some 38,none,.call 32 [(.t 32),(.t 36),(.t 37)]⟩,⟨some 39,none,.call 30 [(.t 30),(.t 6),(.t 31),(.t 38)]⟩])))

set_option maxRecDepth 100000 in
theorem tr74 : trFn Tryz.prog Tryz.f74 = some (40, ir74, []) := by kernel_rfl

theorem Hopf_adjoint_1 (h : HT) (a : Nat) (rt : Prop) (y M : Nat → Int) (t j k hb rb fb ob yb bh : Nat) (Khb Krb Kh : Blk) (H : Hp) (n : Nat) (hS : HS h a) (gh : H.get bh = some Kh) (sh : Kh.size = 1106) (hK : h.At Kh.c) (hB : h.By) (ht : t = 8 * j + k) (hj : j < 8) (hk : k < 8) (hMt : 0 ≤ M t ∧ M t ≤ 255)
    (gb : H.get hb = some Khb) (sb : Khb.size = 1) (cb : Khb.c 0 = .ptr bh 0) (gr : H.get rb = some Krb) (sr : Krb.size = 1) (cr : Krb.c 0 = .bool (tb rt)) (gf : H.get fb = some ⟨2, fldC h.p a, 62⟩)
    (go : H.get ob = some ⟨8, bys (adk h.p M (adg h a rt y) t), 32⟩) (gy : H.get yb = some ⟨8, bys y, 32⟩) (hy : isBy 8 y) :
    FnS Tryz.prog 74 [i64 j, i64 k, i64 (M t), ptr hb 0, ptr rb 0, ptr fb 0, ptr ob 0, ptr yb 0] H n (fun _ H' _ => H' = H.set ob (bys (adk h.p M (adg h a rt y) (t + 1)))) := by
  have hp := hS.hp
  have ha := hS.ha
  have k6 : ∀ q, q < 64 → Kh.c (0 + 1042 + q) = .int .u8 (h.s q) := fun q hq => by rw [Nat.zero_add]; exact hK.s q hq
  have htl : t < 64 := by omega
  obtain ⟨G, hG⟩ : ∃ G, G = adg h a rt y := ⟨_, rfl⟩
  have hGt : G t = pr h.p h.m (pr h.p h.m (adl h rt t) y a) (adr h rt t) a := by rw [hG]; rfl
  rw [← hG] at go
  refine FnS.of_body Tryz.func74 tr74 (by simp) (fun hf => ?_)
  dsimp only [argEnv]
  unfold ir74
  have b1 := getlt hf gh
  have b2 := getlt hf gb
  have b3 := getlt hf gr
  have b4 := getlt hf gf
  have b5 := getlt hf go
  have b6 := getlt hf gy
  have eJ : t / 8 = j := by omega
  have eK : t % 8 = k := by omega
  (refine zG ?_)
  refine CS.mixtL _ (fun _ _ h => h) ?_
  (repeat first|refine zG ?_|(refine LS.nilQ ?_;try with_reducible intro nq hnq;try refine zU ?_))
  refine LS.callQ (.arr 8 (bys (bas j))) rfl (fun n' hn' => impl_basis j _ _ (by omega)) ?_
  (repeat first|refine zG ?_|(refine LS.nilQ ?_;try with_reducible intro nq hnq;try refine zU ?_))
  refine MTW.two (fun b14 b15 => [(11, ptr b14 0), (12, ptr b15 0), (0, i64 (j : Nat)), (1, i64 (k : Nat)), (2, i64 (M t)), (3, ptr hb 0), (4, ptr rb 0), (5, ptr fb 0), (6, ptr ob 0), (7, ptr yb 0)]) rfl rfl rfl rfl (by decide) (by decide) rfl rfl (fun b1 b2 => by (repeat first | exact trivial | refine And.intro rfl ?_)) (fun b1 b2 => by (repeat first | exact trivial | refine And.intro rfl ?_)) ?_
  intro b14 b15 n5 q14 q15 hne f14 f15 l14 l15 hn5
  clear f14 f15
  (refine zG ?_)
  refine zI ?_ ?_<;>intro h5
  · have eL : adl h rt t = fun q => h.s (8 * j + q) := by unfold adl; rw [if_pos (tb_true h5), eJ]
    have eR : adr h rt t = bas k := by unfold adr; rw [if_pos (tb_true h5), eK]
    (refine zG ?_)
    refine LS.callQ (.arr 8 (bys (bas k))) rfl (fun n' hn' => impl_basis k _ _ (by omega)) ?_
    (repeat first|refine zG ?_|(refine LS.nilQ ?_;try with_reducible intro nq hnq;try refine zU ?_))
    refine CS.weak (e1 := [(11, ptr b14 0), (12, ptr b15 0), (2, i64 (M t)), (3, ptr hb 0), (5, ptr fb 0), (6, ptr ob 0), (7, ptr yb 0)]) (H1 := (b14, ⟨8, bys (adl h rt t), 32⟩) :: (b15, ⟨8, bys (adr h rt t), 32⟩) :: H) (by (repeat first | exact trivial | refine And.intro rfl ?_)) (Drops.keepc rfl rfl (fun q hq => by rw [eL]) (Drops.keepc rfl rfl (fun q hq => by rw [eR]) (Drops.refl _ _))) ?_
    refine CS.tailLo _ (List.Mem.head _) ?_; dsimp only [List.take, List.drop]
    (refine zG ?_)
    refine LS.callQ (.arr 8 (bys (pr h.p h.m (adl h rt t) y a))) rfl (fun n' hn' => FnS.args (concs_cons rfl (concs_cons (conc_arr (fun q hq => by first | rfl | (simp only [Nat.zero_add]; done) | (simp only [Nat.zero_add]; rfl))) (concs_cons (conc_arr (fun q hq => by first | rfl | (simp only [Nat.zero_add]; done) | (simp only [Nat.zero_add]; rfl))) rfl))) (Hopf_product h a (adl h rt t) y bh Kh _ _ hS (by exact zH) sh hK hB (adl_by hB rt htl) hy)) ?_
    (refine zG ?_)
    refine LS.callQ (.arr 8 (bys (G t))) rfl (fun n' hn' => by rw [hGt]; exact FnS.args (concs_cons rfl (concs_cons (conc_arr (fun q hq => by first | rfl | (simp only [Nat.zero_add]; done) | (simp only [Nat.zero_add]; rfl))) (concs_cons (conc_arr (fun q hq => by first | rfl | (simp only [Nat.zero_add]; done) | (simp only [Nat.zero_add]; rfl))) rfl))) (Hopf_product h a (pr h.p h.m (adl h rt t) y a) (adr h rt t) bh Kh _ _ hS (by exact zH) sh hK hB (isRes.by (pr_res hp.1 _ _ _ _ 8) hp.2) (adr_by hB rt htl))) ?_
    (repeat first|refine zG ?_|(refine LS.nilQ ?_;try with_reducible intro nq hnq;try refine zU ?_))
    refine RS.call rfl ((field_plus h.p a (M t) (adk h.p M G t) (G t) ob 0 _ _ _ hp (by exact zH) (by simp) (fun _ _ => by rw [Nat.zero_add]; rfl) (adk_res hp.1 _ _ _ 8) (isRes.by (by rw [hGt]; exact pr_res hp.1 _ _ _ _ 8) hp.2) (by omega)).mono ?_)
    rintro r H' n6 hn6 ⟨rfl, rfl⟩
    simp (disch := omega) only [Hp.set_ne]
    (refine zG ?_)
    exact ⟨_, H.set ob (bys (adk h.p M (adg h a rt y) (t + 1))), rfl, Drops.drop (by omega) (by first | exact Hp.get_set_none _ (hf _ (by omega)) | (rw [Hp.get_ne _ _ (fun q => hne q.symm)]; exact Hp.get_set_none _ (hf _ (by omega)))) (Drops.drop (by omega) (Hp.get_set_none _ (hf _ (by omega))) (Drops.setc go (fun q hq => (splice_all _ _ 8 q hq).trans (by rw [adk_step, hG])))), rfl⟩
  · have eL : adl h rt t = bas j := by unfold adl; rw [tb_false h5, if_neg (by simp), eJ]
    have eR : adr h rt t = fun q => h.s (8 * k + q) := by unfold adr; rw [tb_false h5, if_neg (by simp), eK]
    (refine zG ?_)
    refine CS.weak (e1 := [(11, ptr b14 0), (12, ptr b15 0), (2, i64 (M t)), (3, ptr hb 0), (5, ptr fb 0), (6, ptr ob 0), (7, ptr yb 0)]) (H1 := (b14, ⟨8, bys (adl h rt t), 32⟩) :: (b15, ⟨8, bys (adr h rt t), 32⟩) :: H) (by (repeat first | exact trivial | refine And.intro rfl ?_)) (Drops.keepc rfl rfl (fun q hq => by rw [eL]) (Drops.keepc rfl rfl (fun q hq => by rw [eR]) (Drops.refl _ _))) ?_
    refine CS.tailLo _ (List.Mem.head _) ?_; dsimp only [List.take, List.drop]
    (refine zG ?_)
    refine LS.callQ (.arr 8 (bys (pr h.p h.m (adl h rt t) y a))) rfl (fun n' hn' => FnS.args (concs_cons rfl (concs_cons (conc_arr (fun q hq => by first | rfl | (simp only [Nat.zero_add]; done) | (simp only [Nat.zero_add]; rfl))) (concs_cons (conc_arr (fun q hq => by first | rfl | (simp only [Nat.zero_add]; done) | (simp only [Nat.zero_add]; rfl))) rfl))) (Hopf_product h a (adl h rt t) y bh Kh _ _ hS (by exact zH) sh hK hB (adl_by hB rt htl) hy)) ?_
    (refine zG ?_)
    refine LS.callQ (.arr 8 (bys (G t))) rfl (fun n' hn' => by rw [hGt]; exact FnS.args (concs_cons rfl (concs_cons (conc_arr (fun q hq => by first | rfl | (simp only [Nat.zero_add]; done) | (simp only [Nat.zero_add]; rfl))) (concs_cons (conc_arr (fun q hq => by first | rfl | (simp only [Nat.zero_add]; done) | (simp only [Nat.zero_add]; rfl))) rfl))) (Hopf_product h a (pr h.p h.m (adl h rt t) y a) (adr h rt t) bh Kh _ _ hS (by exact zH) sh hK hB (isRes.by (pr_res hp.1 _ _ _ _ 8) hp.2) (adr_by hB rt htl))) ?_
    (repeat first|refine zG ?_|(refine LS.nilQ ?_;try with_reducible intro nq hnq;try refine zU ?_))
    refine RS.call rfl ((field_plus h.p a (M t) (adk h.p M G t) (G t) ob 0 _ _ _ hp (by exact zH) (by simp) (fun _ _ => by rw [Nat.zero_add]; rfl) (adk_res hp.1 _ _ _ 8) (isRes.by (by rw [hGt]; exact pr_res hp.1 _ _ _ _ 8) hp.2) (by omega)).mono ?_)
    rintro r H' n6 hn6 ⟨rfl, rfl⟩
    simp (disch := omega) only [Hp.set_ne]
    (refine zG ?_)
    exact ⟨_, H.set ob (bys (adk h.p M (adg h a rt y) (t + 1))), rfl, Drops.drop (by omega) (by first | exact Hp.get_set_none _ (hf _ (by omega)) | (rw [Hp.get_ne _ _ (fun q => hne q.symm)]; exact Hp.get_set_none _ (hf _ (by omega)))) (Drops.drop (by omega) (Hp.get_set_none _ (hf _ (by omega))) (Drops.setc go (fun q hq => (splice_all _ _ 8 q hq).trans (by rw [adk_step, hG])))), rfl⟩

/-- (*impl.Hopf).adjoint -/
def ir53 : Cd := (.seq (.reg [⟨some 4,none,.box 81 (.t 0)⟩,⟨some 5,none,.box 32 (.t 1)⟩,⟨some 6,none,.box 32 (.t 2)⟩,⟨some 7,none,.box 4 (.t 3)⟩,⟨some 8,none,.new 32 [(8,(.int .u8 0))]⟩]) (.seq (.reg [⟨some 12,none,.ld none (.t 4)⟩,⟨some 13,none,.call 28 [(.t 12)]⟩,⟨some 14,none,.build 8 [(8,(.int .u8 0))] []⟩,⟨some 9,none,.new 62 [(2,(.int .i64 0))]⟩,⟨some 10,none,.new 32 [(8,(.int .u8 0))]⟩,⟨none,none,.st 2 (.t 9) (.t 13)⟩,⟨none,none,.st 8 (.t 10) (.t 14)⟩]) (.seq (.reg [⟨some 15,none,.ld none (.t 4)⟩,⟨some 16,none,.ld (some 8) (.t 5)⟩,⟨some 17,none,.call 72 [(.t 15),(.t 16)]⟩,⟨some 11,none,.new 34 [(64,(.int .u8 0))]⟩,⟨none,none,.st 64 (.t 11) (.t 17)⟩]) (.seq (.reg [⟨some 18,none,.mkf 74 [] [(.t 4),(.t 7),(.t 9),(.t 10),(.t 6)]⟩,⟨some 19,none,.call 73 [(.t 11),(.t 18)]⟩]) (.seq (.reg [⟨some 20,none,.ld (some 8) (.t 10)⟩,⟨none,none,.st 8 (.t 8) (.t 20)⟩]) .ret)))))

set_option maxRecDepth 100000 in
theorem tr53 : trFn Tryz.prog Tryz.f53 = some (21, ir53, [.cell (some 8) 8]) := by kernel_rfl

theorem Hopf_adjoint (h : HT) (a : Nat) (rt : Prop) (x y : Nat → Int) (bh : Nat) (Kh : Blk) (H : Hp) (n : Nat) (hS : HS h a) (gh : H.get bh = some Kh) (sh : Kh.size = 1106) (hK : h.At Kh.c) (hB : h.By) (hx : isBy 8 x) (hy : isBy 8 y) :
    FnS Tryz.prog 53 [ptr bh 0, .arr 8 (bys x), .arr 8 (bys y), bl (tb rt)] H n (fun r H' _ => r = .arr 8 (bys (adj h a rt x y)) ∧ H' = H) := by
  have hp := hS.hp
  have ha := hS.ha
  have hk1 := hK.n
  rw [hS.hn] at hk1
  obtain ⟨M, hM⟩ : ∃ M, M = cps h.p h.c x 8 := ⟨_, rfl⟩
  have hMr : isRes h.p 64 M := by rw [hM]; exact cps_res hp.1 _ _ _ _
  refine FnS.of_body Tryz.func53 tr53 (by simp) (fun hf => ?_)
  dsimp only [argEnv]
  unfold ir53
  have hbn := getlt hf gh
  (refine zG ?_)
  refine RS.call rfl ((Hopf_field h.p a bh Kh _ _ (by exact zH) sh hK.p hk1 (by omega)).mono ?_)
  rintro r H' n2 hn2 ⟨rfl, rfl⟩
  (refine zG ?_)
  refine RS.call rfl ((FnS.args (concs_cons rfl (concs_cons (conc_arr (fun q hq => by first | rfl | (simp only [Nat.zero_add]; done) | (simp only [Nat.zero_add]; rfl))) rfl)) (Hopf_coproduct h a x bh Kh _ _ hS (by exact zH) sh hK hB hx)).mono ?_)
  rintro r H' n3 hn3 ⟨rfl, rfl⟩
  rw [← hM]
  (refine zG ?_)
  refine RS.call rfl ((impl_pairs M n3 0 _ _ (fun t => (n3, ⟨64, bys M, 34⟩) :: (n2 + 1, ⟨8, bys (adk h.p M (adg h a rt y) t), 32⟩) :: (n2, ⟨2, fldC h.p a, 62⟩) :: (n + 4, ⟨Zs.size [(8, SV.int .u8 0)], Zs.c [(8, SV.int .u8 0)], 32⟩) :: (n + 3, ⟨1, fun _ => .bool (tb rt), 4⟩) :: (n + 2, ⟨8, bys y, 32⟩) :: (n + 1, ⟨8, bys x, 32⟩) :: (n, ⟨1, fun _ => .ptr bh 0, 81⟩) :: H) _ _ (by (try dsimp only); rw [adk_zero]; rfl)
    (fun s hs => ⟨_, Hp.get_eq _ _ _, by (try dsimp only); omega, fun q hq => by rw [Nat.zero_add]; rfl⟩) (isRes.by hMr hp.2) (fun s hs hz => by (try dsimp only); rw [adk_more (t := s) (t' := s + 1) (by omega) (fun s' h1 h2 => by rw [show s' = s by omega]; exact hz)]) (fun t j k n' ht ht' hk hz hn' => ?_)).mono ?_)
  · have hMt := hMr t ht
    refine (Hopf_adjoint_1 h a rt y M t j k n (n + 3) n2 (n2 + 1) (n + 2) bh _ _ Kh _ n' hS (by exact zH) sh hK hB ht' (by omega) hk (by omega) (by exact zH) rfl rfl (by exact zH) rfl rfl (by exact zH) (by exact zH) (by exact zH) hy).mono ?_
    rintro r H' n4 hn4 rfl
    simp (disch := omega) only [Hp.set_eq, Hp.set_ne, Hp.set_set]
  rintro r H' n4 hn4 rfl
  (refine zG ?_)
  exact ⟨.arr 8 (bys (adj h a rt x y)), _, conc_arr (fun q hq => by unfold adj; rw [← hM]; first | rfl | (simp only [Nat.zero_add]; done) | (simp only [Nat.zero_add]; rfl)), by exact zD, rfl, rfl⟩

/-- (*impl.Hopf).isNormal -/
def ir29 : Cd := (.seq (.reg [⟨some 4,none,.mov (.c (.bool false))⟩]) (.seq (.seq (.reg [⟨some 8,none,.mov (.t 0)⟩,⟨some 9,none,.mov (.t 1)⟩,⟨some 10,none,.call 51 [(.t 8),(.t 9)]⟩,⟨some 11,none,.un .not (.t 10)⟩]) (.cond (.t 11) (.seq (.reg [⟨some 4,none,.mov (.c (.bool false))⟩]) .ret) .skip)) (.seq (.seq (.reg [⟨some 12,none,.mov (.t 0)⟩,⟨some 13,none,.ck (.t 12)⟩,⟨some 14,none,.fa 1 (.t 13)⟩,⟨some 15,none,.ld none (.t 14)⟩,⟨some 16,none,.mov (.c (.int .i64 0))⟩]) (.block 0 (.loop (.seq (.reg [⟨some 17,none,.bin .lss (.t 16) (.t 15)⟩]) (.seq (.cond (.t 17) .skip (.exit 0)) (.seq (.block 1 (.seq (.reg [⟨some 18,none,.mov (.t 16)⟩,⟨some 5,none,.mov (.t 18)⟩]) (.seq (.reg [⟨some 19,none,.mov (.t 1)⟩,⟨some 20,none,.len (.t 19)⟩,⟨some 21,none,.mov (.c (.int .i64 0))⟩]) (.block 2 (.loop (.seq (.reg [⟨some 22,none,.bin .lss (.t 21) (.t 20)⟩]) (.seq (.cond (.t 22) .skip (.exit 2)) (.seq (.block 3 (.seq (.reg [⟨some 23,none,.isl 8 (.t 19) (.t 21)⟩,⟨some 24,none,.ld (some 8) (.t 23)⟩,⟨some 7,none,.new 32 [(8,(.int .u8 0))]⟩,⟨none,none,.st 8 (.t 7) (.t 24)⟩]) (.seq (.drwt (.seg 0 (.seg 1 (.seg 2 (.seg 3 (.seg 5 (.seg 7 (.seg 8 (.seg 10 (.seg 4 (.seg 6 (.seg 9 (.seg 11 (.seg 12 (.seg 13 (.seg 14 .done))))))))))))))) [⟨some 25,none,.mov (.t 0)⟩,⟨some 26,none,.mov (.t 1)⟩,⟨some 27,none,.mov (.t 0)⟩,⟨some 28,none,.mov (.t 5)⟩,⟨some 29,none,.call 33 [(.t 28)]⟩,⟨some 30,none,.ld (some 8) (.t 7)⟩,⟨some 31,none,.call 53 [(.t 27),(.t 29),(.t 30),(.c (.bool false))]⟩,⟨some 32,none,.mov (.t 0)⟩,⟨some 33,none,.mov (.t 5)⟩,⟨some 34,none,.call 33 [(.t 33)]⟩,⟨some 35,none,.ld (some 8) (.t 7)⟩,⟨some 36,none,.call 53 [(.t 32),(.t 34),(.t 35),(.c (.bool true))]⟩,⟨some 37,none,.bsl 32 2 8 [(8,(.int .u8 0))] [(0,8,(.t 31)),(8,8,(.t 36))]⟩,⟨some 38,none,.call 52 [(.t 25),(.t 26),(.t 37)]⟩,⟨some 39,none,.un .not (.t 38)⟩]) (.cond (.t 39) (.seq (.reg [⟨some 4,none,.mov (.c (.bool false))⟩]) .ret) .skip)))) (.reg [⟨some 40,none,.bin .add (.t 21) (.c (.int .i64 1))⟩,⟨some 21,none,.mov (.t 40)⟩]))))))))) (.reg [⟨some 41,none,.bin .add (.t 16) (.c (.int .i64 1))⟩,⟨some 16,none,.mov (.t 41)⟩]))))))) (.seq (.reg [⟨some 4,none,.mov (.c (.bool true))⟩]) .ret))))

set_option maxRecDepth 100000 in
theorem tr29 : trFn Tryz.prog Tryz.f29 = some (42, ir29, [.tmp 4]) := by kernel_rfl

theorem Hopf_isNormal (h : HT) (a : Nat) (R : Nat → Nat → Int) (c rb bh : Nat) (P : Nat → Nat) (rv : SV) (Kh : Blk) (H : Hp) (n : Nat) (hS : HS h a) (gh : H.get bh = some Kh) (sh : Kh.size = 1106) (hK : h.At Kh.c) (hB : h.By) (hu : isRes h.p 8 h.u) (hV : VL H rv c R rb) (rr : RR h.p R c P) :
    FnS Tryz.prog 29 [ptr bh 0, .s rv] H n (fun r H' _ => r = bl (tb (nrm h a R c)) ∧ H' = H) := by
  have hb := hS.hp
  have ha := hS.ha
  have hc8 := rr.d8
  have k1 := hK.n
  rw [hS.hn] at k1
  have k1' : Kh.c (0 + 1) = .int .i64 (a : Nat) := k1
  have hRr : ∀ i, i < c → isRes h.p 8 (R i) := fun i hi => rr.res i hi
  have hRl : ∀ i, i < c → fsn (R i) 8 < 8 := fun i hi => by rw [rr.fsn hi]; exact rr.lt i hi
  obtain ⟨o, cap, Kr, rfl, gr, ho, hm, hc⟩ := id hV
  refine FnS.of_body Tryz.func29 tr29 (by simp) (fun hf => ?_)
  dsimp only [argEnv]
  unfold ir29
  have hrb := getlt hf gr
  have hbh := getlt hf gh
  (refine zG ?_)
  refine RS.call rfl ((Hopf_isSub h a R c rb bh P _ Kh _ _ hS gh sh hK hB hu hV rr).mono ?_)
  rintro r H' n2 hn2 ⟨rfl, rfl⟩
  (refine zG ?_)
  refine zI ?_ ?_<;>intro h1
  · (refine zG ?_)
    exact ⟨_, H', rfl, Drops.refl _ _, by rw [tb_false (fun q => h1 q.1)], rfl⟩
  (refine zG ?_)
  refine CS.iter a (fun k => [(16, i64 (k : Nat)), (15, i64 (a : Nat)), (1, .s (.slc rb o c cap)), (0, ptr bh 0)]) (fun _ => H') (fun k => Fx (∀ i k', i < c → k' < k → isIn h.p R c (adj h a False (bas k') (R i)) ∧ isIn h.p R c (adj h a True (bas k') (R i)))) (by (repeat first | exact trivial | refine And.intro rfl ?_)) (Drops.refl _ _) ⟨fun i k hi hk => by omega⟩ ?_
  intro k n3 hk hn3 hJ
  (refine zG ?_)
  refine zI ?_ ?_<;>intro h2
  · have hk' : k < a := by omega
    (refine zG ?_)
    refine CS.iter c (fun i => [(21, i64 (i : Nat)), (20, i64 (c : Nat)), (19, .s (.slc rb o c cap)), (5, i64 (k : Nat)), (16, i64 (k : Nat)), (15, i64 (a : Nat)), (1, .s (.slc rb o c cap)), (0, ptr bh 0)]) (fun _ => H') (fun i => Fx (∀ i', i' < i → isIn h.p R c (adj h a False (bas k) (R i')) ∧ isIn h.p R c (adj h a True (bas k) (R i')))) (by (repeat first | exact trivial | refine And.intro rfl ?_)) (Drops.refl _ _) ⟨fun i hi => by omega⟩ ?_
    intro i n4 hi hn4 hJk
    (refine zG ?_)
    refine zI ?_ ?_<;>intro h3
    · have hi' : i < c := by omega
      have e9 : ∀ q, q < 8 → Kr.c (o + i * 8 + q) = .int .u8 (R i q) := fun q hq => by rw [Nat.add_assoc]; exact hc i q hi' hq
      have hRb : isBy 8 (R i) := isRes.by (hRr i hi') hb.2
      have hbk : isBy 8 (bas k) := isRes.by (bas_res hb.1 k 8) hb.2
      (refine zG ?_)
      obtain ⟨HX, hHX⟩ : ∃ HX : Hp, HX = (n4, ⟨8, bys (R i), 32⟩) :: H' := ⟨_, rfl⟩
      refine CS.weak (e1 := [(7, ptr n4 0), (21, i64 (i : Nat)), (20, i64 (c : Nat)), (19, .s (.slc rb o c cap)), (5, i64 (k : Nat)), (16, i64 (k : Nat)), (15, i64 (a : Nat)), (1, .s (.slc rb o c cap)), (0, ptr bh 0)]) (H1 := HX) (by (repeat first | exact trivial | refine And.intro rfl ?_)) (by rw [hHX]; exact Drops.keepc rfl rfl (fun q hq => by first | rfl | (unfold splice; rw [if_pos (by (try dsimp only at hq); (try simp [Zs.size] at hq); omega), Nat.sub_zero])) (Drops.refl _ _)) ?_
      have gv : HX.get n4 = some ⟨8, bys (R i), 32⟩ := by rw [hHX]; exact Hp.get_eq _ _ _
      have lX : ∀ x, x < n4 → HX.get x = H'.get x := fun x hx => by rw [hHX, Hp.get_ne _ _ (by omega)]
      have ghX : HX.get bh = some Kh := by rw [lX bh (by omega)]; exact gh
      have VX : VL HX (.slc rb o c cap) c R rb := hV.keep (lX rb (by omega))
      have dX : ∀ m, m ≤ n4 → Drops m HX H' := fun m hm => by rw [hHX]; exact Drops.drop hm (hf _ (by omega)) (Drops.refl _ _)
      refine CS.ordNt HX (Ext.refl _) ?_
      have adjF := fun H n => Hopf_adjoint h a False (bas k) (R i) bh Kh H n hS
      have adjT := fun H n => Hopf_adjoint h a True (bas k) (R i) bh Kh H n hS
      rw [tb_false (fun q => q)] at adjF
      rw [tb_true trivial] at adjT
      refine FT.seg rfl (ST.mov (by exact rfl) ?_)
      refine FT.seg rfl (ST.mov (by exact rfl) ?_)
      refine FT.seg rfl (ST.mov (by exact rfl) ?_)
      refine FT.seg rfl (ST.mov (by exact rfl) ?_)
      refine FT.seg rfl (ST.ldn (c := bys (R i)) (by exact rfl) gv (by (try dsimp only); omega) (by funext x; rw [Nat.zero_add]) ?_)
      refine FT.seg rfl (ST.mov (by exact rfl) ?_)
      refine FT.seg rfl (ST.mov (by exact rfl) ?_)
      refine FT.seg rfl (ST.ldn (c := bys (R i)) (by exact rfl) gv (by (try dsimp only); omega) (by funext x; rw [Nat.zero_add]) ?_)
      refine FT.seg rfl (ST.callq (.arr 8 (bys (bas k))) (Ext.refl _) rfl (fun n' h1 h2 => impl_basis k _ _ (by omega)) ?_)
      refine FT.seg rfl (ST.callq (.arr 8 (bys (adj h a False (bas k) (R i)))) (Ext.refl _) rfl (fun n' h1 h2 => adjF _ _ ghX sh hK hB hbk hRb) ?_)
      refine FT.seg rfl (ST.callq (.arr 8 (bys (bas k))) (Ext.refl _) rfl (fun n' h1 h2 => impl_basis k _ _ (by omega)) ?_)
      refine FT.seg rfl (ST.callq (.arr 8 (bys (adj h a True (bas k) (R i)))) (Ext.refl _) rfl (fun n' h1 h2 => adjT _ _ ghX sh hK hB hbk hRb) ?_)
      refine FT.seg rfl (ST.bsl (Ext.refl _) rfl ?_)
      intro b9 hb9 hf9
      obtain ⟨LL, hLL⟩ : ∃ LL : Nat → Nat → Int, LL = fun i' => if i' = 0 then adj h a False (bas k) (R i) else adj h a True (bas k) (R i) := ⟨_, rfl⟩
      refine FT.seg rfl (ST.callq (bl (tb (∀ i', i' < 2 → isIn h.p R c (LL i')))) ((Ext.refl _).push _ (hf9 b9 (Nat.le_refl _))) rfl (fun n' h1 h2 => Hopf_holds h R LL c 2 rb b9 bh _ _ Kh _ _ hb (by rw [Hp.get_ne _ _ (by omega)]; exact ghX) sh hK (by omega) (by omega) (VX.keep (Hp.get_ne _ _ (by omega))) ⟨0, 2, _, rfl, Hp.get_eq _ _ _, by (try dsimp only); omega, Nat.le_refl _, fun i' x hi' hx => by
        (try dsimp only)
        rw [hLL]
        unfold splice
        rcases (show i' = 0 ∨ i' = 1 by omega) with rfl | rfl
        · rw [if_neg (by omega), if_pos (by omega), show 0 + (0 * 8 + x) - 0 = x by omega]
          exact congrArg (SV.int .u8) (by (try dsimp only); rw [if_pos rfl])
        · rw [if_pos (by omega), show 0 + (1 * 8 + x) - 8 = x by omega]
          exact congrArg (SV.int .u8) (by (try dsimp only); rw [if_neg (by omega)])⟩ hRr hRl (fun i' hi' => by rw [hLL]; (try dsimp only); split <;> exact adk_res hb.1 _ _ _ 8)) ?_)
      refine FT.seg rfl (ST.notb (by exact rfl) ?_)
      refine FT.done ?_
      intro n9 hn9 hlt9
      have e2 : (∀ i', i' < 2 → isIn h.p R c (LL i')) ↔ isIn h.p R c (adj h a False (bas k) (R i)) ∧ isIn h.p R c (adj h a True (bas k) (R i)) := by
        rw [hLL]
        exact ⟨fun q => ⟨q 0 (by omega), q 1 (by omega)⟩, fun q i' hi' => by
          rcases (show i' = 0 ∨ i' = 1 by omega) with rfl | rfl
          · exact q.1
          · exact q.2⟩
      dsimp only [Ex.then, Ex.inBlock, putD, Env.put]
      (repeat first|refine zG ?_|(refine LS.nilO ?_;intro nq hnq hltq;try refine zU ?_)|(refine MS.new ?_;intro bq hbq hbqf;try refine zU ?_)|(refine MS.nil ?_;intro nq hnq hltq;have hlq:=hltq _ _ (Hp.get_eq _ _ _);clear hltq;try refine zU ?_)|(refine LS.nilQ ?_;try with_reducible intro nq hnq;try refine zU ?_))
      refine zI ?_ ?_<;>intro h5
      · (refine zG ?_)
        exact ⟨_, H', rfl, Drops.drop (by omega) (hf _ (by omega)) (dX n (by omega)), by rw [tb_false (fun q => h5 (e2.2 (q.2 i k hi' hk')))], rfl⟩
      · (refine zG ?_)
        refine ⟨by omega, by (repeat first | exact trivial | refine And.intro rfl ?_), Drops.drop (by omega) (hf _ (by omega)) (dX n (by omega)), ⟨fun i2 hi2 => ?_⟩⟩
        by_cases e : i2 = i
        · rw [e]; exact e2.1 h5
        · exact hJk.out i2 (by omega)
    · obtain rfl : c = i := by omega
      (refine zG ?_)
      refine ⟨by omega, by (repeat first | exact trivial | refine And.intro rfl ?_), Drops.refl _ _, ⟨fun i2 k2 hi2 hk2 => ?_⟩⟩
      by_cases e : k2 = k
      · rw [e]; exact hJk.out i2 hi2
      · exact hJ.out i2 k2 hi2 (by omega)
  · obtain rfl : a = k := by omega
    (refine zG ?_)
    exact ⟨_, H', rfl, Drops.refl _ _, by rw [tb_true (show nrm h a R c from ⟨h1, hJ.out⟩)], rfl⟩

end Go.Proofs.YtideblodkkgodaaGreat

/- Ideals of normal sub Hopf algebras, the program's. -/

namespace Go.Proofs.YtideblodkkgodaaGreat

open Go.V

variable [BW]

set_option linter.unusedSimpArgs false

set_option linter.unusedVariables false

set_option maxHeartbeats 4000000

theorem Hopf_spanN (h : HT) (L : Nat → Nat → Int) (k lb bh : Nat) (lv : SV) (Kh : Blk) (H : Hp) (n : Nat) (hp : isP h.p = true) (gh : H.get bh = some Kh) (sh : Kh.size = 1106) (hK : h.At Kh.c) (hk : k ≤ 1000000) (hL : VN H lv k L lb) (hLr : ∀ i, i < k → isRes h.p 8 (L i)) :
    FnS Tryz.prog 27 [ptr bh 0, .s lv] H n (fun r H' n' => ∃ sv' A' d' P' b', r = .s sv' ∧ VL H' sv' d' A' b' ∧ RR h.p A' d' P' ∧ same h.p A' d' L k ∧ n ≤ b' ∧ b' < n' ∧ (∀ x, n' ≤ x → H'.get x = none) ∧ ∀ x, x < n → H'.get x = H.get x) := by
  rcases hL with ⟨rfl, rfl⟩ | hL
  · exact Hopf_span_nil h L bh Kh H n hp gh sh hK
  · exact Hopf_span h L k lb bh lv Kh H n hp gh sh hK hk hL hLr

/-- impl.IdealOfSub -/
def ir8 : Cd := (.seq (.reg [⟨some 2,none,.box 38 (.t 0)⟩,⟨some 4,none,.mov (.c .nils)⟩,⟨some 5,none,.mov (.c (.int .i64 0))⟩]) (.seq (.seq (.reg [⟨some 13,none,.mov (.t 1)⟩,⟨some 14,none,.call 26 [(.t 2),(.t 13)]⟩,⟨some 6,none,.mov (.t 14)⟩]) (.seq (.reg [⟨some 15,none,.mov (.t 6)⟩,⟨some 16,none,.bin .neq (.t 15) (.c (.int .i64 0))⟩]) (.cond (.t 16) (.seq (.reg [⟨some 17,none,.mov (.t 6)⟩,⟨some 4,none,.mov (.c .nils)⟩,⟨some 5,none,.mov (.t 17)⟩]) .ret) .skip))) (.seq (.reg [⟨some 18,none,.mov (.t 1)⟩,⟨some 19,none,.call 27 [(.t 2),(.t 18)]⟩,⟨some 20,none,.call 28 [(.t 2)]⟩,⟨some 8,none,.new 62 [(2,(.int .i64 0))]⟩,⟨some 7,none,.mov (.t 19)⟩,⟨none,none,.st 2 (.t 8) (.t 20)⟩]) (.seq (.seq (.reg [⟨some 21,none,.mov (.t 7)⟩,⟨some 22,none,.call 29 [(.t 2),(.t 21)]⟩,⟨some 23,none,.un .not (.t 22)⟩]) (.cond (.t 23) (.seq (.reg [⟨some 4,none,.mov (.c .nils)⟩,⟨some 5,none,.mov (.c (.int .i64 5))⟩]) .ret) .skip)) (.seq (.reg [⟨some 24,none,.bsl 32 0 8 [(8,(.int .u8 0))] []⟩,⟨some 9,none,.mov (.t 24)⟩]) (.seq (.seq (.reg [⟨some 25,none,.mov (.t 7)⟩,⟨some 26,none,.len (.t 25)⟩,⟨some 27,none,.mov (.c (.int .i64 0))⟩]) (.block 0 (.loop (.seq (.reg [⟨some 28,none,.bin .lss (.t 27) (.t 26)⟩]) (.seq (.cond (.t 28) .skip (.exit 0)) (.seq (.block 1 (.seq (.reg [⟨some 29,none,.isl 8 (.t 25) (.t 27)⟩,⟨some 30,none,.ld (some 8) (.t 29)⟩,⟨some 11,none,.new 32 [(8,(.int .u8 0))]⟩,⟨none,none,.st 8 (.t 11) (.t 30)⟩]) (.seq (.drw true [6] [⟨some 31,none,.ld (some 2) (.t 8)⟩,⟨some 32,none,.ld (some 8) (.t 11)⟩,⟨some 33,none,.call 31 [(.t 2),(.t 32)]⟩,⟨some 34,none,.un .neg (.t 33)⟩,⟨some 35,none,.fa 2 (.t 2)⟩,⟨some 36,none,.ld (some 8) (.t 35)⟩,⟨some 37,none,.call 30 [(.t 31),(.t 11),(.t 34),(.t 36)]⟩]) (.seq (.reg [⟨some 38,none,.fa 1 (.t 8)⟩,⟨some 39,none,.ld none (.t 38)⟩,⟨some 40,none,.mov (.c (.int .i64 0))⟩]) (.block 2 (.loop (.seq (.reg [⟨some 41,none,.bin .lss (.t 40) (.t 39)⟩]) (.seq (.cond (.t 41) .skip (.exit 2)) (.seq (.block 3 (.seq (.reg [⟨some 42,none,.mov (.t 40)⟩,⟨some 12,none,.mov (.t 42)⟩]) (.drwo true [6] [0,1,3,2,4,5,6,7] [⟨some 43,none,.mov (.t 9)⟩,⟨some 44,none,.mov (.t 12)⟩,⟨some 45,none,.call 33 [(.t 44)]⟩,⟨some 46,none,.ld (some 8) (.t 11)⟩,⟨some 47,none,.call 32 [(.t 2),(.t 45),(.t 46)]⟩,⟨some 48,none,.bsl 32 1 8 [(8,(.int .u8 0))] [(0,8,(.t 47))]⟩,⟨some 49,none,.app 32 8 8 [(8,(.int .u8 0))] (.t 43) (.t 48)⟩,⟨some 9,none,.mov (.t 49)⟩]))) (.reg [⟨some 50,none,.bin .add (.t 40) (.c (.int .i64 1))⟩,⟨some 40,none,.mov (.t 50)⟩])))))))))) (.reg [⟨some 51,none,.bin .add (.t 27) (.c (.int .i64 1))⟩,⟨some 27,none,.mov (.t 51)⟩]))))))) (.seq (.reg [⟨some 52,none,.mov (.t 9)⟩,⟨some 53,none,.call 27 [(.t 2),(.t 52)]⟩,⟨some 4,none,.mov (.t 53)⟩,⟨some 5,none,.mov (.c (.int .i64 0))⟩]) .ret)))))))

set_option maxRecDepth 100000 in
theorem tr8 : trFn Tryz.prog Tryz.f8 = some (54, ir8, [.tmp 4, .tmp 5]) := by kernel_rfl

theorem impl_IdealOfSub (h : HT) (L : Nat → Nat → Int) (k lb : Nat) (lv : SV) (Kh : Nat → SV) (H : Hp) (n : Nat) (hK : h.At Kh) (hB : h.By) (hk : k ≤ 1000000) (hL : VN H lv k L lb) (hLb : ∀ i, i < k → isBy 8 (L i)) (hlb : lb < n) :
    FnS Tryz.prog 8 [.arr 1106 Kh, .s lv] H n (fun r H' n' => IOP h L k r H' n n' ∧ (∀ x, n' ≤ x → H'.get x = none) ∧ ∀ x, x < n → H'.get x = H.get x) := by
  have hk0 := hK.p
  have hk1 := hK.n
  refine FnS.of_body Tryz.func8 tr8 (by simp) (fun hf => ?_)
  dsimp only [argEnv]
  unfold ir8
  (refine zG ?_)
  refine RS.call rfl ((Hopf_code h n lv k (by omega) (fun q => L (q / 8) (q % 8)) ⟨1106, Kh, 38⟩ _ _ (by exact zH) rfl hK hB ((hL.keep (by simp (disch := omega) only [Hp.get_ne])).lst) (fun q hq => hLb (q / 8) (by omega) (q % 8) (by omega))).mono ?_)
  rintro r H' n2 hn2 ⟨rfl, rfl⟩
  have eC : (isHopf h ∧ ∀ i, i < k → isVec h.p h.n (fun x => L ((i * 8 + x) / 8) ((i * 8 + x) % 8))) ↔ hok h L k :=
    and_congr_right fun _ => forall_congr' fun i => imp_congr_right fun hi => ⟨fun q x hx => by have := q x hx; (try dsimp only at this); rwa [VL.row L i x hx] at this, fun q x hx => by (try dsimp only); rw [VL.row L i x hx]; exact q x hx⟩
  rw [cd_iff eC]
  by_cases hq : hok h L k
  · rw [cd_true hq]
    obtain ⟨hh, hvec⟩ := id hq
    obtain ⟨N, hS⟩ := hh.1.hs
    have hN := hS.N
    have hisP : isP h.p = true := hh.1.1.1.1
    have hp := hS.hp
    have hLr : ∀ i, i < k → isRes h.p 8 (L i) := fun i hi => (hvec i hi).res (hLb i hi)
    have huR : isRes h.p 8 h.u := hh.1.1.2.1.res hB.u
    have heR : isRes h.p 8 h.e := hh.1.2.1.2.1.res hB.e
    have hk1' : Kh 1 = .int .i64 (N : Nat) := by rw [← hS.hn]; exact hk1
    have hk1'' : Kh (0 + 1) = .int .i64 (N : Nat) := hk1'
    have hku : ∀ q, q < 8 → Kh (0 + 2 + q) = .int .u8 (h.u q) := fun q hq => by rw [Nat.zero_add]; exact hK.u q hq
    have hN8 := hS.ha
    have hN1 := hS.ha1
    (refine zG ?_)
    refine RS.call rfl ((Hopf_spanN h L k lb n lv ⟨1106, Kh, 38⟩ _ _ hisP (by exact zH) rfl hK hk (hL.keep (by simp (disch := omega) only [Hp.get_ne])) hLr).mono ?_)
    rintro r H2 n3 hn3 ⟨sv, A', c, P', bs, rfl, V', rr', sm', hbs, hbsn, hfr2, hlow2⟩
    obtain ⟨R, P, hrd, rr, smm, e4⟩ := rdA_is hp.1 rr' sm'
    have V : VL H2 sv c R bs := V'.same e4
    clear V' rr' sm' e4
    have g0 : H2.get n = some ⟨1106, Kh, 38⟩ := by rw [hlow2 n (by omega)]; exact zH
    have lo2 : ∀ x, x < n → H2.get x = H.get x := fun x hx => by rw [hlow2 x (by omega)]; simp (disch := omega) only [Hp.get_ne]
    have hc8 := rr.d8
    clear hlow2
    (repeat first|refine zG ?_|(refine LS.nilO ?_;intro nq hnq hltq;try refine zU ?_)|(refine MS.new ?_;intro bq hbq hbqf;try refine zU ?_)|(refine MS.nil ?_;intro nq hnq hltq;have hlq:=hltq _ _ (Hp.get_eq _ _ _);clear hltq;try refine zU ?_)|(refine LS.nilQ ?_;try with_reducible intro nq hnq;try refine zU ?_))
    refine RS.call rfl ((Hopf_field h.p N n ⟨1106, Kh, 38⟩ _ _ (by exact zH) rfl hk0 hk1' (by omega)).mono ?_)
    rintro r H' n4 hn4 ⟨rfl, rfl⟩
    (refine zG ?_)
    refine RS.call rfl ((Hopf_isNormal h N R c bs n P sv ⟨1106, Kh, 38⟩ _ _ hS (by exact zH) rfl hK hB huR (V.keep (by simp (disch := omega) only [Hp.get_ne])) rr).mono ?_)
    rintro r H' n5 hn5 ⟨rfl, rfl⟩
    (refine zG ?_)
    refine zI ?_ ?_<;>intro h1
    · have hgd : ¬iogd h L k := fun z => h1 (by unfold iogd at z; rw [hrd, hN] at z; exact z)
      (refine zG ?_)
      exact ⟨.tup [.s .nils, i64 5], H', rfl, Drops.drop (by omega) (hfr2 _ (by omega)) (Drops.refl _ _), ⟨.nils, by rw [k5_5 hq hgd], fun _ => rfl, fun z => absurd z.2 hgd⟩, fun x hx => hfr2 x (by omega), lo2⟩
    have hgd : iogd h L k := by unfold iogd; rw [hrd, hN]; exact h1
    (refine zG ?_)
    obtain ⟨o, cap, Kr, rfl, gr, ho, hm, hc⟩ := id V
    have hnlt := getlt hfr2 g0
    refine RS.len (by exact rfl) ?_
    (refine zG ?_)
    refine CS.weak (e1 := [(27, i64 (((0 : Nat) : Int))), (26, i64 (c : Nat)), (25, .s (.slc bs o c cap)), (8, ptr n4 0), (2, ptr n 0), (9, .s (.slc n5 0 0 0))]) (by (repeat first | exact trivial | refine And.intro rfl ?_)) (Drops.refl _ _) ?_
    refine CS.loop (fun kx en H6 n6 => ∃ i v9 b9, i ≤ c ∧ kx = c - i ∧ en = [(27, i64 ((i : Nat))), (26, i64 (c : Nat)), (25, .s (.slc bs o c cap)), (8, ptr n4 0), (2, ptr n 0), (9, .s v9)] ∧ VL H6 v9 (i * N) (prl h.p h.m N (ioV h R)) b9 ∧ b9 ≠ bs ∧ b9 ≠ n ∧ b9 ≠ n4 ∧ n ≤ b9 ∧ b9 < n6 ∧ H6.get n = some ⟨1106, Kh, 38⟩ ∧ H6.get n4 = some ⟨2, fldC h.p N, 62⟩ ∧ H6.get bs = some Kr ∧ (∀ x, x < n → H6.get x = H.get x) ∧ ∀ x, n6 ≤ x → H6.get x = none) c ?_ ?_
    · exact ⟨0, _, n5, by omega, rfl, rfl, (Nat.zero_mul N).symm ▸ ⟨0, 0, _, rfl, Hp.get_eq _ _ _, by simp, Nat.le_refl _, fun i x hi => by omega⟩, by omega, by omega, by omega, by omega, by omega, by simp (disch := omega) only [Hp.get_ne]; exact g0, by simp (disch := omega) only [Hp.get_ne, Hp.get_eq]; rfl, by simp (disch := omega) only [Hp.get_ne]; exact gr, fun x hx => by simp (disch := omega) only [Hp.get_ne]; exact lo2 x hx, fun x hx => by simp (disch := omega) only [Hp.get_ne]; exact hfr2 x (by omega)⟩
    rintro kx en H6 n6 hn6 ⟨i, v9, b9, hi, rfl, rfl, V9, hb9s, hb9h, hb9f, hb9n, hb9l, u0, uf, us, lo6, hfr6⟩
    have hbs6 := getlt hfr6 us
    have hn4l := getlt hfr6 uf
    have hnl := getlt hfr6 u0
    (refine zG ?_)
    refine zI ?_ ?_<;>intro h2
    · have hi' : i < c := by omega
      have e9 : ∀ q, q < 8 → Kr.c (o + i * 8 + q) = .int .u8 (R i q) := fun q hq => by rw [Nat.add_assoc]; exact hc i q hi' hq
      have hRr := rr.res i hi'
      have hRb : isBy 8 (R i) := isRes.by hRr hp.2
      have hd : 0 ≤ dotk h.p h.e (R i) 8 ∧ dotk h.p h.e (R i) 8 < h.p := modB _ hp.1
      have huB : isBy 8 h.u := isRes.by huR hp.2
      have hVr : isRes h.p 8 (ioV h R i) := pl_res hp.1 _ _ _ 8
      have hVb : isBy 8 (ioV h R i) := isRes.by hVr hp.2
      (refine zG ?_)
      refine LS.callQ (i64 (dotk h.p h.e (R i) 8)) rfl (fun n' hn' => FnS.args (concs_cons rfl (concs_cons (conc_arr (fun q hq => by first | rfl | (simp only [Nat.zero_add]; done) | (simp only [Nat.zero_add]; rfl) | (unfold splice; rw [if_pos (by omega)]; simp; done))) rfl)) (Hopf_counit h N (R i) n ⟨1106, Kh, 38⟩ _ _ hS (by exact zH) rfl hK hB hRb)) ?_
      (repeat first|refine zG ?_|(refine LS.nilO ?_;intro nq hnq hltq;try refine zU ?_)|(refine MS.new ?_;intro bq hbq hbqf;try refine zU ?_)|(refine MS.nil ?_;intro nq hnq hltq;have hlq:=hltq _ _ (Hp.get_eq _ _ _);clear hltq;try refine zU ?_)|(refine LS.nilQ ?_;try with_reducible intro nq hnq;try refine zU ?_))
      refine RS.neg64 (by exact rfl) (by omega) ?_
      (repeat first|refine zG ?_|(refine LS.nilQ ?_;try with_reducible intro nq hnq;try refine zU ?_))
      refine RS.call rfl ((FnS.args (concs_cons (conc_arr (fun q hq => by first | rfl | (simp only [Nat.zero_add]; done) | (simp only [Nat.zero_add]; rfl))) (concs_cons rfl (concs_cons rfl (concs_cons (conc_arr (fun q hq => by first | rfl | exact hku q hq)) rfl)))) (field_plusZ h.p N (-(dotk h.p h.e (R i) 8)) (R i) h.u n6 0 _ _ _ hp (by exact zH) (by simp [Zs.size]) (fun q hq => by rw [Nat.zero_add]; first | rfl | (unfold splice; rw [if_pos (by omega)]; rfl)) hRr huB (by omega))).mono ?_)
      rintro r H7 n7 hn7 ⟨rfl, rfl⟩
      simp (disch := omega) only [Hp.set_eq, Hp.set_ne]
      (refine zG ?_)
      obtain ⟨H7, hH7⟩ : ∃ H7 : Hp, H7 = (n6, ⟨8, bys (ioV h R i), 32⟩) :: H6 := ⟨_, rfl⟩
      refine CS.weak (e1 := [(40, i64 (((0 : Nat) : Int))), (39, i64 (N : Nat)), (11, ptr n6 0), (27, i64 ((i : Nat))), (26, i64 (c : Nat)), (25, .s (.slc bs o c cap)), (8, ptr n4 0), (2, ptr n 0), (9, .s v9)]) (H1 := H7) (by (repeat first | exact trivial | refine And.intro rfl ?_)) (by rw [hH7]; exact Drops.keepc rfl rfl (fun q hq => (splice_all _ _ 8 q hq).trans rfl) (Drops.refl _ _)) ?_
      have hNm : ∀ j, j < N → i * N + j < 64 := fun j hj => by
        have h1 : i * N ≤ 7 * N := Nat.mul_le_mul_right N (by omega)
        omega
      refine CS.loop (fun kx en H7 n7 => ∃ j v9 b9, j ≤ N ∧ kx = N - j ∧ en = [(40, i64 ((j : Nat))), (39, i64 (N : Nat)), (11, ptr n6 0), (27, i64 ((i : Nat))), (26, i64 (c : Nat)), (25, .s (.slc bs o c cap)), (8, ptr n4 0), (2, ptr n 0), (9, .s v9)] ∧ VL H7 v9 (i * N + j) (prl h.p h.m N (ioV h R)) b9 ∧ b9 ≠ bs ∧ b9 ≠ n ∧ b9 ≠ n4 ∧ b9 ≠ n6 ∧ n ≤ b9 ∧ b9 < n7 ∧ H7.get n6 = some ⟨8, bys (ioV h R i), 32⟩ ∧ H7.get n = some ⟨1106, Kh, 38⟩ ∧ H7.get n4 = some ⟨2, fldC h.p N, 62⟩ ∧ H7.get bs = some Kr ∧ (∀ x, x < n → H7.get x = H.get x) ∧ ∀ x, n7 ≤ x → H7.get x = none) N ?_ ?_
      · have lo7 : ∀ x, x < n6 → H7.get x = H6.get x := fun x hx => by rw [hH7, Hp.get_ne _ _ (by omega)]
        exact ⟨0, v9, b9, by omega, rfl, rfl, V9.keep (lo7 b9 hb9l), hb9s, hb9h, hb9f, by omega, hb9n, by omega, by rw [hH7]; exact Hp.get_eq _ _ _, by rw [lo7 n hnl]; exact u0, by rw [lo7 n4 hn4l]; exact uf, by rw [lo7 bs hbs6]; exact us, fun x hx => by rw [lo7 x (by omega)]; exact lo6 x hx, fun x hx => by rw [hH7, Hp.get_ne _ _ (by omega)]; exact hfr6 x (by omega)⟩
      clear V9 hb9s hb9h hb9f hb9n hb9l u0 uf us lo6 hfr6 hH7
      rintro kx en H8 n8 hn8 ⟨j, v9, b9, hj, rfl, rfl, V9, hb9s, hb9h, hb9f, hb9v, hb9n, hb9l, uv, u0, uf, us, lo6, hfr6⟩
      have hn6l := getlt hfr6 uv
      (refine zG ?_)
      refine zI ?_ ?_<;>intro h3
      · have hj' : j < N := by omega
        have hNm' := hNm j hj'
        have hbj : isBy 8 (bas j) := isRes.by (bas_res hp.1 j 8) hp.2
        have eW : prl h.p h.m N (ioV h R) (i * N + j) = pr h.p h.m (bas j) (ioV h R i) N := by
          unfold prl
          rw [show (i * N + j) / N = i by rw [Nat.mul_comm, Nat.mul_add_div (by omega), Nat.div_eq_of_lt hj', Nat.add_zero], show (i * N + j) % N = j by rw [Nat.mul_comm, Nat.mul_add_mod, Nat.mod_eq_of_lt hj']]
        (refine zG ?_)
        have hEX := Ext.one uv
        refine CS.ordK [(n6, ⟨8, bys (ioV h R i), 32⟩)] hEX ?_
        dsimp only [pick, List.filterMap_cons, List.getElem?_cons_zero, List.getElem?_cons_succ, List.filterMap_nil]
        refine FL.step (ST.mov (by exact rfl) ?_)
        refine FL.step (ST.mov (by exact rfl) ?_)
        refine FL.step (ST.ldn (c := bys (ioV h R i)) (by exact rfl) (Hp.get_eq _ _ _) (by (try dsimp only); omega) (by funext x; rw [Nat.zero_add]) ?_)
        refine FL.step (ST.callq (.arr 8 (bys (bas j))) hEX rfl (fun n' h1 h2 => impl_basis j _ _ (by omega)) ?_)
        refine FL.step (ST.callq (.arr 8 (bys (prl h.p h.m N (ioV h R) (i * N + j)))) hEX rfl (fun n' h1 h2 => by rw [eW]; exact Hopf_product h N (bas j) (ioV h R i) n _ _ _ hS u0 rfl hK hB hbj hVb) ?_)
        refine FL.step (ST.bsl hEX rfl ?_)
        intro b2 hb2 hf2
        refine FL.step (ST.appV (I := prl h.p h.m N (ioV h R)) (m := i * N + j) (b := b9) (b2 := b2) (w := prl h.p h.m N (ioV h R) (i * N + j)) (hEX.push _ (hf2 b2 (Nat.le_refl _))) (by exact rfl) (by exact rfl) (V9.keep (Hp.get_ne _ _ (by omega))) (Hp.get_eq _ _ _) rfl (fun q hq => by (try dsimp only); unfold splice; rw [if_pos (by omega), Nat.sub_zero]; rfl) (by omega) (by rw [Hp.get_ne _ _ (fun q => hb9v q.symm)]; rfl) ?_)
        intro v' b' H3 hV3 hb' hl3 hE3
        have hV3' : VL H3 v' (i * N + (j + 1)) (prl h.p h.m N (ioV h R)) b' := hV3.same (fun k x hk hx => by
          unfold snc
          by_cases e : k = i * N + j
          · rw [if_pos e, e]
          · rw [if_neg e])
        refine FL.step (ST.mov (by exact rfl) ?_)
        refine FL.nil ?_
        intro n9 hn9 hlt9
        dsimp only [Ex.then, Ex.inBlock, putD, Env.put]
        (refine zG ?_)
        have hfr9 : ∀ x, n9 ≤ x → H3.get x = none := fun x hx => by
          cases e : H3.get x with
          | none => rfl
          | some k => exact absurd (hlt9 x k e) (by omega)
        have hb3l := hV3.bound hfr9
        have hb'' : b' ≠ bs ∧ b' ≠ n ∧ b' ≠ n4 ∧ b' ≠ n6 ∧ n ≤ b' := by rcases hb' with e | ⟨e, _⟩ <;> omega
        have l3 : ∀ x, x ≠ b' → x < n8 → H3.get x = H8.get x := fun x hx hx2 => by rw [hl3 x hx, Hp.get_ne _ _ (by omega)]
        exact ⟨N - (j + 1), [(40, i64 (((j + 1 : Nat) : Int))), (39, i64 (N : Nat)), (11, ptr n6 0), (27, i64 ((i : Nat))), (26, i64 (c : Nat)), (25, .s (.slc bs o c cap)), (8, ptr n4 0), (2, ptr n 0), (9, .s v')], H3, by omega, by (repeat first | exact trivial | refine And.intro rfl ?_), Drops.refl _ _, j + 1, v', b', by omega, rfl, rfl, hV3', hb''.1, hb''.2.1, hb''.2.2.1, hb''.2.2.2.1, hb''.2.2.2.2, hb3l, by rw [l3 n6 (fun q => hb''.2.2.2.1 q.symm) (by omega)]; exact uv, by rw [l3 n (fun q => hb''.2.1 q.symm) (by omega)]; exact u0, by rw [l3 n4 (fun q => hb''.2.2.1 q.symm) (by omega)]; exact uf, by rw [l3 bs (fun q => hb''.1 q.symm) (by omega)]; exact us, fun x hx => by rw [l3 x (by omega) (by omega)]; exact lo6 x hx, hfr9⟩
      obtain rfl : N = j := by omega
      (refine zG ?_)
      exact ⟨c - (i + 1), [(27, i64 (((i + 1 : Nat) : Int))), (26, i64 (c : Nat)), (25, .s (.slc bs o c cap)), (8, ptr n4 0), (2, ptr n 0), (9, .s v9)], H8, by omega, by (repeat first | exact trivial | refine And.intro rfl ?_), Drops.refl _ _, i + 1, v9, b9, by omega, rfl, rfl, by rw [Nat.succ_mul]; exact V9, hb9s, hb9h, hb9f, hb9n, hb9l, u0, uf, us, lo6, hfr6⟩
    obtain rfl : c = i := by omega
    have hcN : c * N ≤ 8 * 8 := Nat.mul_le_mul hc8 hN8
    (refine zG ?_)
    refine RS.call rfl ((Hopf_span h (prl h.p h.m N (ioV h R)) (c * N) b9 n v9 ⟨1106, Kh, 38⟩ _ _ hisP u0 rfl hK (by omega) V9 (fun q hq => pr_res hp.1 _ _ _ _ 8)).mono ?_)
    rintro r H9 n9 hn9 ⟨sv2, A2, d2, P2, b2, rfl, V2, rr2, sm2, hb2, hb2n, hfr9, hlow9⟩
    rw [Nat.mul_comm] at sm2
    obtain ⟨A1, P1, hr1, rr1, sm1, e1⟩ := rdA_is hp.1 rr2 sm2
    have hio : ioA h L k = (A1, d2, P1) := by unfold ioA; rw [hrd, hN]; exact hr1
    (refine zG ?_)
    exact ⟨.tup [.s sv2, i64 0], H9, rfl, Drops.refl _ _, ⟨sv2, by rw [k5_0 hq hgd], fun z => absurd ⟨hq, hgd⟩ z, fun _ => by rw [hio]; exact ⟨rr2.d8, b2, V2.same e1, by omega, hb2n⟩⟩, hfr9, fun x hx => by rw [hlow9 x (by omega)]; exact lo6 x hx⟩
  · rw [cd_false hq]
    (refine zG ?_)
    exact ⟨.tup [.s .nils, i64 1], H, rfl, by exact zD, ⟨.nils, by rw [k5_1 hq], fun _ => rfl, fun z => absurd z.1 hq⟩, fun x hx => hf x (by omega), fun x hx => rfl⟩

end Go.Proofs.YtideblodkkgodaaGreat
